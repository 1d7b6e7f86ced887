/-
  Texts of the proofs of this seat, part 2. No condition.
-/
import Derived.Test.YtmndmahpoljhmaaGreatDoorMA
import Derived.MapKept
set_option linter.unusedVariables false
set_option linter.unusedSimpArgs false
namespace Go.Eng
open Go.RowKit
section
variable{P:Program} {T:TypeId→lA} {w0:iU} {X:Nat→Prop} {H:Nat→aX} {β:Nat→Option Nat} {w:World} {a:Act} {o:Oper} {g:Operand→LV} {E:Nat→Prop}
theorem Kw(new:List Value):∀(j off:Nat) (cs:Array Value),off+j+new.length≤cs.size→
 (new.zipIdx j).foldl (fun cs p=>cs.setIfInBounds (off+p.2) p.1) cs=(cU (off+j) cs.toList new).toArray:=by
 induction new with
 |nil=>intro j off cs h;simp[cU]
 |cons v t ih=>
  intro j off cs h
  simp only[List.length_cons]at h
  simp only[List.zipIdx_cons,List.foldl_cons]
  rw[ih (j+1) off _ (by simp;omega)]
  congr 1
  apply List.ext_getElem?
  intro i
  have hl:cs.toList.length=cs.size:=by simp
  have hl2:(cs.setIfInBounds (off+j) v).toList.length=cs.size:=by simp
  have q1:=mV (off:=off+(j+1)) (cs:=(cs.setIfInBounds (off+j) v).toList) (new:=t) (by rw[hl2];omega) i
  have q2:=mV (off:=off+j) (cs:=cs.toList) (new:=v::t) (by rw[hl];simp;omega) i
  rw[q1,q2]
  simp only[List.length_cons,Array.getElem?_toList]
  by_cases h1:i<off+j
  ·rw[if_pos (by omega),if_pos h1,Array.getElem?_setIfInBounds_ne (by omega)]
  ·rw[if_neg h1]
   by_cases h2:i=off+j
   ·subst h2
    rw[if_pos (by omega),if_pos (by omega)]
    simp[show off+j<cs.size by omega]
   ·rw[if_neg (by omega)]
    by_cases h3:i<off+j+(t.length+1)
    ·rw[if_pos (by omega),if_pos h3]
     rw[show i-(off+j)=(i-(off+(j+1)))+1 by omega]
     simp
    ·rw[if_neg (by omega),if_neg h3,Array.getElem?_setIfInBounds_ne (by omega)]
theorem Es{place:Nat→Option (Nat×Nat)}{cells:Array Value}{i:Nat}{v:Value}{rest:List (Nat×Value)}{off size:Nat}(hp:place i=some (off,size))(hv:v.cells.toList.length=size)(hf:off+size≤cells.size):
 Instr.fill place cells ((i,v)::rest)=Instr.fill place (cU off cells.toList v.cells.toList).toArray rest:=by
 have hs:v.cells.size=size:=by simpa using hv
 simp only[Instr.fill,hp]
 rw[if_neg (by simp[hs];omega)]
 congr 1
 have:=Kw v.cells.toList 0 off cells (by omega)
 simp only[Nat.add_zero]at this
 rw[←this,←Array.foldl_toList]
 simp
theorem BJ(hT:mA P T){fs:List (Nat×TypeId)}(hsz:∀p∈fs,(T p.2).k.isNone=false):∀(ps:List (Nat×Operand)) (cs res:List LV) (us:List Value),
 nI fs T cs (ps.map fun p=>(p.1,g p.2))=some res→(∀p∈ps,iA H (g p.2)=true)→(∀x,R w E β H (g x) (a.eval x))→
 us.length=cs.length→(∀u∈us,u.oneCell'=true)→(∀(i:Nat) (c:LV) (v:Value),cs[i]? =some c→us[i]? =some v→R w E β H c v)→
 ∃vs,Instr.fill (fun i=>(fs[i]?).map fun p=>(p.1,(T p.2).size)) us.toArray (ps.map fun p=>(p.1,a.eval p.2))=some (List.toArray vs)∧vs.length=res.length∧(∀u∈vs,u.oneCell'=true)∧
  ∀(i:Nat) (c:LV) (v:Value),res[i]? =some c→vs[i]? =some v→R w E β H c v:=by
 intro ps
 induction ps with
 |nil=>
  intro cs res us h _ _ hl h1 hp
  simp[nI]at h;subst h
  exact⟨us,by simp[Instr.fill],hl,h1,hp⟩
 |cons p ps ih=>
  intro cs res us h hs hg hl h1 hp
  simp only[List.map_cons,nI]at h
  split at h
  ·cases h
  ·rename_i off ty hf
   split at h
   ·rename_i hc
    obtain⟨hc1,hc2⟩:=hc
    have hsp:=hs p (by simp)
    obtain⟨q1,q2⟩:=(hg p.2).cells hsp
    have q3:=(hg p.2).cells1 hsp
    obtain⟨vs,r1,r2⟩:=ih _ res (cU off us (a.eval p.2).cells.toList) h (fun q hq=>hs q (by simp[hq])) hg (by rw[lM (by omega),lM (by omega)];exact hl) (CL h1 q3) (Gr hl q1 (by omega) hp q2)
    refine⟨vs,?_,r2⟩
    simp only[List.map_cons]
    rw[Es (off:=off) (size:=(T ty).size) (by simp[hf]) (by omega) (by rw[List.size_toArray];omega)]
    exact r1
   ·cases h
theorem Et{place place':Nat→Option (Nat×Nat)}(hp:∀i q,place i=some q→place' i=some q):∀{ps:List (Nat×Value)} {cells res:Array Value},Instr.fill place cells ps=some res→Instr.fill place' cells ps=some res
 |[],_,_,h=>h
 |(i,v)::r,cells,res,h=>by
  simp only[Instr.fill]at h⊢
  cases q:place i with
  |none=>rw[q]at h;cases h
  |some p=>
   obtain⟨off,size⟩:=p
   rw[q]at h
   rw[hp i _ q]
   simp only at h⊢
   split at h
   ·cases h
   ·rename_i hc
    rw[if_neg hc]
    exact Et hp h
theorem Mx(hT:mA P T)(m:fX w0 X H β w)(hg:∀x,R w (Ex X β H) β H (g x) (a.eval x)){t:TypeId}{ps:Array (Nat×Operand)}(ho:o.op=.build t ps)
 (ht:∀fs,(T t).k=.struct fs→∀p∈fs,(T p.2).k.isNone=false)(hta:∀n e,(T t).k=.arr n e→(T e).k.isNone=false)(hok:(eE T H t (ps.toList.map fun p=>(p.1,g p.2))).ok):pP P w0 X H β w a o (eE T H t (ps.toList.map fun p=>(p.1,g p.2))):=by
 unfold eE at*
 split at hok
 ·rename_i fs hk
  obtain⟨fa,hu,hm⟩:=hT.struct hk
  split at hok
  ·rename_i res hres
   simp only[oZ.cond]at hok⊢
   obtain⟨inf,d,z,h1,h2,h3,h4,h5,h6,h7⟩:=hT.parts (t:=t) (by rw[hk];rfl)
   have hone:=(hT t (by rw[hk];rfl)).one
   obtain⟨vs,r1,r2,r3,r4⟩:=BJ (P:=P) (H:=H) (w:=w) (E:=Ex X β H) (β:=β) hT (ht fs hk) ps.toList _ res (T t).zero hres (fun p hp=>hok _ (List.mem_map.2 ⟨p,hp,rfl⟩)) hg (by simp) hone
    (fun i c v hc hv=>by simp[hv]at hc;subst hc;exact R.const v)
   refine pP.plain m (v:=.agg vs.toArray) ?_ (R.mkAgg r2 r3 r4)
   have hzc:z.cells=(T t).zero.toArray:=by rw[←h7]
   have hplaces:∀w:World,(fa.mapM fun f=>(do pure (f.offset,←sizeOf f.type):Sem (Nat×Nat))).run P w=.ok (fa.map fun f=>(f.offset,(T f.type).size)) w:=by
    intro w
    have hall:∀f∈fa.toList,(T f.type).k.isNone=false:=fun f hf=>ht fs hk (f.offset,f.type) (by rw[←hm];exact List.mem_map.2 ⟨f,hf,rfl⟩)
    rw[Array.mapM_eq_mapM_toList]
    have:∀l:List Field,(∀f∈l,(T f.type).k.isNone=false)→(l.mapM fun f=>(do pure (f.offset,←sizeOf f.type):Sem (Nat×Nat))).run P w=.ok (l.map fun f=>(f.offset,(T f.type).size)) w:=by
     intro l
     induction l with
     |nil=>intro _;rfl
     |cons f l ih=>
      intro hl
      have i1:=ih fun f hf=>hl f (by simp[hf])
      have i2:=cQ (P:=P) (w:=w) hT (hl f (by simp))
      simp only[List.mapM_cons,List.map_cons,Sem.run_bind,i2,Result.andThen_ok,Sem.run_pure,i1]
    rw[Sem.run_map,this fa.toList hall]
    simp only[Result.andThen_ok]
    congr 1
    apply Array.ext'
    simp
   have hfun:(fun i:Nat=>(fa.map fun f=>(f.offset,(T f.type).size))[i]?)=fun i=>(fs[i]?).map fun p=>(p.1,(T p.2).size):=by
    funext i
    rw[←hm]
    simp
    rfl
   have hps:(ps.map fun(p:Nat×Operand)=>(p.1,a.eval p.2)).toList=ps.toList.map fun p=>(p.1,a.eval p.2):=by simp
   simp only[execOp,ho,Instr.build,Sem.run_bind,zeroValue,typeInfo,run_program,Result.andThen_ok,h1,h6,Sem.run_pure,run_underlying hu,hplaces,hfun,hzc,hps,r1]
  ·exact hok.elim
 ·rename_i n e hk
  have hu:=hT.arr hk
  have hne:=hta n e hk
  split at hok
  ·rename_i res hres
   simp only[oZ.cond]at hok⊢
   obtain⟨inf,d,z,h1,h2,h3,h4,h5,h6,h7⟩:=hT.parts (t:=t) (by rw[hk];rfl)
   have hone:=(hT t (by rw[hk];rfl)).one
   obtain⟨vs,r1,r2,r3,r4⟩:=BJ (P:=P) (H:=H) (w:=w) (E:=Ex X β H) (β:=β) hT (fun p hp=>by obtain⟨i,_,rfl⟩:=List.mem_map.1 hp;exact hne) ps.toList _ res (T t).zero hres (fun p hp=>hok _ (List.mem_map.2 ⟨p,hp,rfl⟩)) hg (by simp) hone
    (fun i c v hc hv=>by simp[hv]at hc;subst hc;exact R.const v)
   refine pP.plain m (v:=.agg vs.toArray) ?_ (R.mkAgg r2 r3 r4)
   have hzc:z.cells=(T t).zero.toArray:=by rw[←h7]
   have hso:=cQ (P:=P) (w:=w) hT hne
   have hps:(ps.map fun(p:Nat×Operand)=>(p.1,a.eval p.2)).toList=ps.toList.map fun p=>(p.1,a.eval p.2):=by simp
   have r1':=Et (place':=fun i=>some (i*(T e).size,(T e).size)) (fun i q hq=>by
    rw[List.getElem?_map]at hq
    by_cases hi:i<n
    ·simpa [hi]using hq
    ·simp[hi]at hq) r1
   simp only[execOp,ho,Instr.build,Sem.run_bind,zeroValue,typeInfo,run_program,Result.andThen_ok,h1,h6,Sem.run_pure,run_underlying hu,hso,hzc,hps,r1']
  ·exact hok.elim
 ·exact hok.elim
theorem CO{s:Nat}:∀(vs:List Value) (k:Nat) (cur:List Value),(∀v∈vs,v.cells.toList.length=s)→(k+vs.length)*s=cur.length→
 Instr.fill (fun i=>some (i*s,s)) cur.toArray (vs.zipIdx k |>.map fun p=>(p.2,p.1))=some (cur.take (k*s)++vs.flatMap fun v=>v.cells.toList).toArray:=by
 intro vs
 induction vs with
 |nil=>
  intro k cur _ h
  simp at h
  rw[List.take_of_length_le (by omega)]
  simp[Instr.fill]
 |cons v t ih=>
  intro k cur hs h
  simp only[List.length_cons]at h
  have hv:=hs v (by simp)
  have e1:(k+(t.length+1))*s=k*s+s+t.length*s:=by rw[Nat.add_mul,Nat.add_mul];omega
  simp only[List.zipIdx_cons,List.map_cons]
  have e3:cur.toArray.toList=cur:=by simp
  rw[Es (off:=k*s) (size:=s) rfl hv (by rw[List.size_toArray];omega),e3]
  rw[ih (k+1) _ (fun u hu=>hs u (by simp[hu])) (by rw[lM (by omega)];rw[←h];congr 1;omega)]
  congr 2
  simp only[List.flatMap_cons]
  rw[←List.append_assoc]
  congr 1
  have e2:(k+1)*s=k*s+s:=by rw[Nat.add_mul];omega
  rw[e2]
  generalize v.cells.toList=u at hv
  unfold cU
  have hl:(cur.take (k*s)).length=k*s:=by rw[List.length_take];omega
  have hl2:(cur.take (k*s)++u).length=k*s+s:=by rw[List.length_append,hl,hv]
  rw[List.take_append_of_le_length (by omega),List.take_of_length_le (by omega)]
theorem BK{w:World}{E:Nat→Prop}{xs:List DV}{vs:List Value}{s:Nat}(hl:vs.length=xs.length)(hs:∀x∈xs,(aE x).length=s)(h:∀(i:Nat) (c:DV) (v:Value),xs[i]? =some c→vs[i]? =some v→RD w E c v):
 (∀v∈vs,v.cells.toList.length=s)∧(vs.flatMap fun v=>v.cells.toList).length=xs.length*s∧(∀u∈vs.flatMap fun v=>v.cells.toList,u.oneCell'=true)∧
   ∀(i:Nat) (d:DV) (u:Value),(bO xs)[i]? =some d→(vs.flatMap fun v=>v.cells.toList)[i]? =some u→RD w E d u:=by
 induction xs generalizing vs with
 |nil=>
  have:vs=[]:=List.eq_nil_of_length_eq_zero (by simpa using hl)
  subst this
  simp[bO]
 |cons x t ih=>
  match vs,hl with
  |v::vs,hl=>
   have hx:=h 0 x v rfl rfl
   obtain⟨c1,c2⟩:=hx.cells
   have c3:=hx.cells1
   have hsx:=hs x (by simp)
   obtain⟨i1,i2,i3,i4⟩:=ih (vs:=vs) (by simpa using hl) (fun y hy=>hs y (by simp[hy])) (fun i c v hc hv=>h (i+1) c v (by simpa using hc) (by simpa using hv))
   refine⟨fun u hu=>?_,?_,fun u hu=>?_,fun i d u hd hu=>?_⟩
   ·rcases List.mem_cons.1 hu with rfl|hu
    ·omega
    ·exact i1 u hu
   ·simp only[List.flatMap_cons,List.length_append,List.length_cons,i2,Nat.add_mul];omega
   ·simp only[List.flatMap_cons,List.mem_append]at hu
    rcases hu with hu|hu
    ·exact c3 u hu
    ·exact i3 u hu
   ·simp only[bO,List.flatMap_cons]at hd
    simp only[List.flatMap_cons]at hu
    by_cases hi:i<(aE x).length
    ·rw[List.getElem?_append_left hi]at hd
     rw[List.getElem?_append_left (by omega)]at hu
     exact c2 i d u hd hu
    ·rw[List.getElem?_append_right (by omega)]at hd
     rw[List.getElem?_append_right (by omega),c1]at hu
     exact i4 _ d u hd hu
theorem Ag(m:fX w0 X H β w){d:Nat}(hd:H d=.absent){s:Nat}(hs:0<s){xs:List DV}(hall:∀x∈xs,(aE x).length=s){cur:Array Value}(e:TypeId)(hlen:xs.length*s≤cur.size)
 (hp:∀(i:Nat) (d:DV) (v:Value),(bO xs)[i]? =some d→cur[i]? =some v→v.oneCell'=true∧RD w (Ex X β H) d v){w':World}(hb:En w.heap.size w w')(hsz:w.heap.size<w'.heap.size)(hblk:w'.heap[w.heap.size]? =some (.cells cur e (0,0))):
 fX w0 X (cN H d (.row false s xs)) (cN β d (some w.heap.size)) w'∧lF X H β w (cN H d (.row false s xs)) (cN β d (some w.heap.size)) w':=
 m.newObj hb hd (some w.heap.size) (fun b hb=>by injection hb with hb;omega) fun hD _=>by
  unfold fU
  rw[aJ]
  exact⟨hs,hall,.inr ⟨w.heap.size,e,cur,by rw[aJ],hblk,hlen,fun i d v hd hv=>⟨(hp i d v hd hv).1,hD _ _ (hp i d v hd hv).2⟩⟩⟩
theorem Ah(m:fX w0 X H β w){d:Nat}(hd:H d=.absent){s:Nat}(hs:0<s):fX w0 X (cN H d (.row false s [])) (cN β d none) w∧lF X H β w (cN H d (.row false s [])) (cN β d none) w:=
 m.newObj (En.refl _ _) hd none (fun b hb=>by cases hb) fun _ _=>by
  unfold fU
  rw[aJ]
  exact⟨hs,by simp,.inl ⟨by rw[aJ],rfl⟩⟩
theorem uG{α:Type}:∀(ps:List (Nat×α)) (k:Nat),ps.map (·.1)=List.range' k ps.length→ps=((ps.map (·.2)).zipIdx k).map fun p=>(p.2,p.1)
 |[],_,_=>rfl
 |p::ps,k,h=>by
  simp only[List.map_cons,List.length_cons,List.range'_succ,List.cons.injEq]at h
  simp only[List.map_cons,List.zipIdx_cons]
  rw[←uG ps (k+1) h.2,←h.1]
theorem Ef(hT:mA P T)(m:fX w0 X H β w)(hg:∀x,R w (Ex X β H) β H (g x) (a.eval x)){t:TypeId}{n:Nat}{ps:Array (Nat×Operand)}{dst:Nat}(ho:o.op=.buildSlice t n ps)
 (ht:∀e,(T t).k=.slice e→(T e).k.isNone=false)(hok:(bE T H dst t n (ps.toList.map fun p=>(p.1,g p.2))).ok):pP P w0 X H β w a o (bE T H dst t n (ps.toList.map fun p=>(p.1,g p.2))):=by
 unfold bE at*
 split at hok
 ·rename_i e hk
  split at hok
  ·rename_i xs hxs
   simp only at hok⊢
   obtain⟨ha,hr,hs0,hall,hlim⟩:=hok
   have hu:=hT.slice hk
   obtain⟨inf,d,z,h1,h2,h3,h4,h5,h6,h7⟩:=hT.parts (ht e hk)
   have hlps:ps.toList.length=n:=by have:=congrArg List.length hr;simpa using this
   obtain⟨hxl,hxp⟩:=pJ hxs
   simp only[List.length_map]at hxl
   let ids:=(ps.toList.map fun p=>(p.1,g p.2)).flatMap fun p=>bL H 8 p.2
   obtain⟨m1,g1⟩:=m.freeze ids
   have hids:bG H (aP H ids) dst=.absent:=by rw[jG,ha];simp[frozen]
   have hRD:∀(i:Nat) (c:DV) (v:Value),xs[i]? =some c→(ps.toList.map fun p=>a.eval p.2)[i]? =some v→RD w (Ex X β (bG H (aP H ids))) c v:=by
    intro i c v hc hv
    obtain⟨p,hp,rfl⟩:=lP hv
    have hp':(ps.toList.map fun p=>(p.1,g p.2))[i]? =some (p.1,g p.2):=by rw[List.getElem?_map,hp];rfl
    have hcl:=hxp i _ c hp' hc
    exact lN m hcl (fun id hid=>List.mem_flatMap.2 ⟨_,List.mem_of_getElem? hp',hid⟩) (hg p.2)
   obtain⟨f1,f2,f3,f4⟩:=BK (xs:=xs) (vs:=ps.toList.map fun p=>a.eval p.2) (s:=(T e).size) (by simp[hxl]) hall hRD
   generalize hcs:((ps.toList.map fun p=>a.eval p.2).flatMap fun v=>v.cells.toList)=cs at*
   have hfill:∀cur:List Value,cur.length=n*(T e).size→Instr.fill (fun i=>some (i*(T e).size,(T e).size)) cur.toArray (ps.map fun(p:Nat×Operand)=>(p.1,a.eval p.2)).toList=some cs.toArray:=by
    intro cur hcur
    have e1:(ps.map fun(p:Nat×Operand)=>(p.1,a.eval p.2)).toList=((ps.toList.map fun p=>a.eval p.2).zipIdx 0).map fun p=>(p.2,p.1):=by
     have:=uG (ps.toList.map fun(p:Nat×Operand)=>(p.1,a.eval p.2)) 0 (by
      rw[List.map_map]at hr⊢
      rw[List.length_map,hlps,←List.range_eq_range',←hr]
      rfl)
     rw[Array.toList_map,this,List.map_map]
     rfl
    rw[e1,CO _ 0 cur f1 (by rw[hcur];simp[hlps]),hcs]
    simp
   have hfillA:∀cur:Array Value,cur.size=n*(T e).size→Instr.fill (fun i=>some (i*(T e).size,(T e).size)) cur (ps.map fun(p:Nat×Operand)=>(p.1,a.eval p.2)).toList=some cs.toArray:=by
    intro cur hcur
    have:=hfill cur.toList (by simpa using hcur)
    rwa[Array.toArray_toList]at this
   have hxn:xs.length=n:=by omega
   have hrun:(execOp a.eval o).run P w=.ok (.value (.slice (some ⟨w.heap.size,0,none⟩) n n)) (w.alloc (.cells cs.toArray e)):=by
    simp only[execOp,ho,Instr.buildSlice,Sem.run_bind,run_underlying hu,Result.andThen_ok,cQ hT (ht e hk)]
    rw[if_neg (by show¬(n*(T e).size>2^24);omega)]
    by_cases hz:n*(T e).size=0
    ·simp only[if_pos hz,Sem.run_bind,Sem.run_pure,Result.andThen_ok]
     rw[hfillA _ (by simp)]
     simp[newRow]
    ·simp only[if_neg hz,Sem.run_bind,zeroValue,typeInfo,run_program,h1,h6,Sem.run_pure,Result.andThen_ok]
     rw[hfillA _ (by simp)]
     simp[newRow]
   have:=Ag m1 hids hs0 hall e (cur:=cs.toArray) (by rw[List.size_toArray,f2];omega) (fun i d v hd hv=>⟨f3 v (by simp at hv;exact List.mem_of_getElem? hv),f4 i d v hd (by simpa using hv)⟩)
    ((En.refl _ _).alloc (Nat.le_refl _) (.cells cs.toArray e)) (by simp) (heap_alloc_new w _)
   refine bQ hrun (by simp only[mD];exact this.1) (by simp only[mD];exact g1.trans this.2) ?_
   simp only[mD]
   rcases Nat.eq_zero_or_pos n with hn|hn
   ·subst hn
    exact .ow0 dst 0 _ false (T e).size xs (by rw[aJ]) (.inr ⟨_,_,_,by rw[aJ],heap_alloc_new w _,by rw[List.size_toArray,f2,hxn],Nat.zero_le _⟩)
   ·have hR:=R.ow (w:=w.alloc (.cells cs.toArray e)) (E:=Ex X (cN β dst (some w.heap.size)) (cN (bG H (aP H ids)) dst (.row false (T e).size xs))) (β:=cN β dst (some w.heap.size)) (H:=cN (bG H (aP H ids)) dst (.row false (T e).size xs))
     dst 0 n w.heap.size n false (T e).size xs cs.toArray e (by rw[aJ]) (by rw[aJ]) (by omega) (Nat.le_refl _) (by unfold maxLen;have:=Nat.le_mul_of_pos_right n hs0;omega) (heap_alloc_new w _) (by rw[List.size_toArray,f2,Nat.zero_add,hxn])
    rw[Nat.zero_mul]at hR
    exact hR
  ·exact hok.elim
 ·exact hok.elim
theorem CP(hT:mA P T)(m:fX w0 X H β w)(hg:∀x,R w (Ex X β H) β H (g x) (a.eval x)){t:TypeId}{n:Nat}{ps:Array (Nat×Operand)}{dst:Nat}(ho:o.op=.buildSlice t n ps)
 (ht:∀e,(T t).k=.slice e→(T e).k.isNone=false)(hok:(bA T H dst t n (ps.toList.map fun p=>(p.1,g p.2))).ok):pP P w0 X H β w a o (bA T H dst t n (ps.toList.map fun p=>(p.1,g p.2))):=by
 unfold bA at*
 split at hok
 ·rename_i e hk
  split at hok
  ·rename_i xs hxs
   simp only at hok⊢
   obtain⟨ha,hr,hs0,hall,hlim⟩:=hok
   have hu:=hT.slice hk
   obtain⟨inf,d,z,h1,h2,h3,h4,h5,h6,h7⟩:=hT.parts (ht e hk)
   have hlps:ps.toList.length=n:=by have:=congrArg List.length hr;simpa using this
   obtain⟨hxl,hxp⟩:=pJ hxs
   simp only[List.length_map]at hxl
   let ids:=(ps.toList.map fun p=>(p.1,g p.2)).flatMap fun p=>bL H 8 p.2
   obtain⟨m1,g1⟩:=m.freeze ids
   have hids:bG H (aP H ids) dst=.absent:=by rw[jG,ha];simp[frozen]
   have hRD:∀(i:Nat) (c:DV) (v:Value),xs[i]? =some c→(ps.toList.map fun p=>a.eval p.2)[i]? =some v→RD w (Ex X β (bG H (aP H ids))) c v:=by
    intro i c v hc hv
    obtain⟨p,hp,rfl⟩:=lP hv
    have hp':(ps.toList.map fun p=>(p.1,g p.2))[i]? =some (p.1,g p.2):=by rw[List.getElem?_map,hp];rfl
    have hcl:=hxp i _ c hp' hc
    exact lN m hcl (fun id hid=>List.mem_flatMap.2 ⟨_,List.mem_of_getElem? hp',hid⟩) (hg p.2)
   obtain⟨f1,f2,f3,f4⟩:=BK (xs:=xs) (vs:=ps.toList.map fun p=>a.eval p.2) (s:=(T e).size) (by simp[hxl]) hall hRD
   generalize hcs:((ps.toList.map fun p=>a.eval p.2).flatMap fun v=>v.cells.toList)=cs at*
   have hfill:∀cur:List Value,cur.length=n*(T e).size→Instr.fill (fun i=>some (i*(T e).size,(T e).size)) cur.toArray (ps.map fun(p:Nat×Operand)=>(p.1,a.eval p.2)).toList=some cs.toArray:=by
    intro cur hcur
    have e1:(ps.map fun(p:Nat×Operand)=>(p.1,a.eval p.2)).toList=((ps.toList.map fun p=>a.eval p.2).zipIdx 0).map fun p=>(p.2,p.1):=by
     have:=uG (ps.toList.map fun(p:Nat×Operand)=>(p.1,a.eval p.2)) 0 (by
      rw[List.map_map]at hr⊢
      rw[List.length_map,hlps,←List.range_eq_range',←hr]
      rfl)
     rw[Array.toList_map,this,List.map_map]
     rfl
    rw[e1,CO _ 0 cur f1 (by rw[hcur];simp[hlps]),hcs]
    simp
   have hfillA:∀cur:Array Value,cur.size=n*(T e).size→Instr.fill (fun i=>some (i*(T e).size,(T e).size)) cur (ps.map fun(p:Nat×Operand)=>(p.1,a.eval p.2)).toList=some cs.toArray:=by
    intro cur hcur
    have:=hfill cur.toList (by simpa using hcur)
    rwa[Array.toArray_toList]at this
   have hxn:xs.length=n:=by omega
   have hrun:(execOp a.eval o).run P w=.ok (.value (.slice (some ⟨w.heap.size,0,none⟩) n n)) (w.alloc (.cells cs.toArray e)):=by
    simp only[execOp,ho,Instr.buildSlice,Sem.run_bind,run_underlying hu,Result.andThen_ok,cQ hT (ht e hk)]
    rw[if_neg (by show¬(n*(T e).size>2^24);omega)]
    by_cases hz:n*(T e).size=0
    ·simp only[if_pos hz,Sem.run_bind,Sem.run_pure,Result.andThen_ok]
     rw[hfillA _ (by simp)]
     simp[newRow]
    ·simp only[if_neg hz,Sem.run_bind,zeroValue,typeInfo,run_program,h1,h6,Sem.run_pure,Result.andThen_ok]
     rw[hfillA _ (by simp)]
     simp[newRow]
   have:=Ag m1 hids hs0 hall e (cur:=cs.toArray) (by rw[List.size_toArray,f2];omega) (fun i d v hd hv=>⟨f3 v (by simp at hv;exact List.mem_of_getElem? hv),f4 i d v hd (by simpa using hv)⟩)
    ((En.refl _ _).alloc (Nat.le_refl _) (.cells cs.toArray e)) (by simp) (heap_alloc_new w _)
   refine bQ hrun (by simp only[mD];exact this.1) (by simp only[mD];exact g1.trans this.2) ?_
   simp only[mD]
   exact .oc dst 0 n n _ false (T e).size xs (by rw[aJ]) (Nat.le_refl _) (by omega) (by unfold maxLen;have:=Nat.le_mul_of_pos_right n hs0;omega) (.inr ⟨w.heap.size,by rw[aJ],by rw[Nat.zero_mul]⟩)
  ·exact hok.elim
 ·exact hok.elim
end
end Go.Eng
namespace Go.Eng
open Go.RowKit
section
variable{P:Program} {T:TypeId→lA} {w0:iU} {X:Nat→Prop} {H:Nat→aX} {β:Nat→Option Nat} {w:World} {a:Act} {o:Oper} {g:Operand→LV} {E:Nat→Prop}
theorem AV{w w2:World}(h:w2.heap=w.heap)(p:Addr):w2.cell? p=w.cell? p:=by simp[World.cell?,h]
theorem sR{w:World}{size n:Nat}{b:Nat}{off l c:Nat}{us:List Value}(hl:us.length=n*size)(hc:∀(j:Nat) (u:Value),us[j]? =some u→w.cell? ⟨b,off+j,none⟩=some u):
 (Builtin.firstCells size n (.slice (some ⟨b,off,none⟩) l c)).run P w=.ok us.toArray w:=by
 simp only[Builtin.firstCells]
 rw[←hl]
 exact run_loadCells_list (P:=P) (w:=w) ⟨b,off,none⟩ us (fun j v hv=>by rw[Addr.add_lit];exact hc j v hv)
theorem Ai(m:fX w0 X H β w){id k n b s:Nat}{fz:Bool}{xs:List DV}(hH:H id=.row fz s xs)(hb:β id=some b)(hkn:k+n≤xs.length)(c:Nat):
 ∃news:List Value,(∀w2:World,w2.heap=w.heap→(Builtin.firstCells s n (.slice (some ⟨b,k*s,none⟩) n c)).run P w2=.ok news.toArray w2)∧news.length=n*s∧
  (∀u∈news,u.oneCell'=true)∧∀(i:Nat) (d:DV) (u:Value),(bO ((xs.drop k).take n))[i]? =some d→news[i]? =some u→RD w (Ex X β H) d u:=by
 have hob:=m.obj id
 simp only[fU,hH]at hob
 obtain⟨hpos,hall,hob⟩:=hob
 rcases hob with⟨hnone,_⟩|⟨b',e',cur',hb',hblk',hlen',hp⟩
 ·rw[hnone]at hb;cases hb
 rw[hb]at hb';injection hb' with hb';subst hb'
 have hkm:k*s+n*s≤xs.length*s:=by rw[←Nat.add_mul];exact Nat.mul_le_mul_right _ hkn
 have hcs:cur'.toList.length=cur'.size:=by simp
 have hfl:=gA hall
 refine⟨(cur'.toList.drop (k*s)).take (n*s),fun w2 hw=>sR (by rw[List.length_take,List.length_drop];omega) fun j u hu=>?_,by rw[List.length_take,List.length_drop];omega,fun u hu=>?_,fun i d u hd hu=>?_⟩
 ·rw[AV hw,cell_of_row w b _ cur' e' (0,0) hblk']
  rw[List.getElem?_take]at hu
  split at hu
  ·simpa using hu
  ·cases hu
 ·obtain⟨i,hi,rfl⟩:=List.getElem_of_mem hu
  simp only[List.getElem_take,List.getElem_drop]
  rw[List.length_take,List.length_drop]at hi
  exact(hp (k*s+i) ((bO xs)[k*s+i]'(by omega)) _ (List.getElem?_eq_getElem _) (by simp)).1
 ·rw[oD (fun x hx=>hall x (List.mem_of_mem_drop hx)),yI hall,List.getElem?_take]at hd
  rw[List.getElem?_take]at hu
  split at hd
  ·rename_i hi
   rw[if_pos hi]at hu
   rw[List.getElem?_drop]at hd hu
   exact(hp _ d u hd (by simpa using hu)).2
  ·cases hd
theorem mZ(m:fX w0 X H β w){lx:LV}{vx:Value}(hx:R w (Ex X β H) β H lx vx){ys:List DV}(hy:cH H lx=some ys){s:Nat}(hs:∀y∈ys,(aE y).length=s):
 ∃news:List Value,(Builtin.lenOf vx).run P w=.ok ys.length w∧(∀w2:World,w2.heap=w.heap→(Builtin.firstCells s ys.length vx).run P w2=.ok news.toArray w2)∧news.length=ys.length*s∧
  (∀u∈news,u.oneCell'=true)∧∀(i:Nat) (d:DV) (u:Value),(bO ys)[i]? =some d→news[i]? =some u→RD w (Ex X β H) d u:=by
 have empty:∀(b:Option Addr) (c:Nat),(∀w2:World,(Builtin.firstCells s 0 (.slice b 0 c)).run P w2=.ok #[] w2):=by
  intro b c w2
  cases b with
  |none=>simp[Builtin.firstCells]
  |some b=>simp[Builtin.firstCells,loadCells,loadCellsFrom]
 unfold cH at hy
 split at hy
 ·rename_i xs
  injection hy with hy;subst hy
  cases hx with
  |d _ _ hx=>cases hx with
   |sl0 b c hc=>exact⟨[],by simp[Builtin.lenOf],fun w2 _=>empty b c w2,by simp,by simp,by simp[bO]⟩
   |sl _ b off c size us hne hb hall hlen hc hul h1 hlt hcell hp=>
    have hss:s=size:=by
     cases xs with
     |nil=>exact absurd rfl hne
     |cons x t=>rw[←hs x (by simp),hall x (by simp)]
    subst hss
    refine⟨us,by simp[Builtin.lenOf],fun w2 hw=>sR hul fun j u hu=>?_,hul,h1,hp⟩
    rw[AV hw];exact hcell j u hu
 ·rename_i str
  injection hy with hy;subst hy
  have:=hx.str;subst this
  have hs1:(str.map fun b=>(DV.int .u8 b.toNat))=[]∨s=1:=by
   cases str with
   |nil=>left;rfl
   |cons b t=>right;rw[←hs (.int .u8 b.toNat) (by simp)];rfl
  refine⟨str.map fun b=>.int .u8 b.toNat,by simp[Builtin.lenOf,ByteArray.size],fun w2 _=>?_,?_,by simp[Value.oneCell'],fun i d u hd hu=>?_⟩
  ·have hsz:(⟨str.toArray⟩:ByteArray).extract 0 str.length=⟨str.toArray⟩:=by
    apply ByteArray.ext
    simp[ByteArray.data_extract]
   simp[Builtin.firstCells,hsz]
  ·rcases hs1 with h|h
   ·have:str=[]:=by simpa using h
    subst this;simp
   ·subst h;simp
  ·have hfl:∀l:List UInt8,bO (l.map fun b=>(DV.int .u8 b.toNat))=l.map fun b=>(DV.int .u8 b.toNat):=by
    intro l;induction l with
    |nil=>rfl
    |cons b l ih=>simp only[bO,List.map_cons,List.flatMap_cons]at*;rw[ih];rfl
   rw[hfl]at hd
   obtain⟨b,hb,rfl⟩:=lP hd
   obtain⟨b',hb',rfl⟩:=lP hu
   rw[hb]at hb';injection hb' with hb';subst hb'
   exact .int _ _
 ·injection hy with hy;subst hy
  cases hx with
  |nl b=>exact⟨[],by simp[Builtin.lenOf],fun w2 _=>empty b 0 w2,by simp,by simp,by simp[bO]⟩
 ·rename_i id k n
  split at hy
  ·rename_i fz size xs hH
   injection hy with hy;subst hy
   have hob:=m.obj id
   simp only[fU,hH]at hob
   obtain⟨hpos,hall,hob⟩:=hob
   cases hx with
   |ow0 _ _ b=>exact⟨[],by simp[Builtin.lenOf],fun w2 _=>by simpa using empty b 0 w2,by simp,by simp,by simp[bO]⟩
   |owdead _ _ _ _ hd=>rw[hH]at hd;cases hd
   |ow _ _ _ b c _ _ _ cur e hH' hb hkn hn hc hblk hroom=>
    rw[hH]at hH';injection hH' with _ q1 q2;subst q1;subst q2
    rcases hob with⟨hnone,_⟩|⟨b',e',cur',hb',hblk',hlen',hp⟩
    ·rw[hnone]at hb;cases hb
    ·rw[hb]at hb';injection hb' with hb';subst hb'
     have hln:((xs.drop k).take n).length=n:=by simp;omega
     rcases Nat.eq_zero_or_pos n with hz|hz
     ·subst hz
      have hnil:(xs.drop k).take 0=[]:=rfl
      exact⟨[],by simp[Builtin.lenOf],fun w2 _=>by simpa using empty _ c w2,by simp,by simp,by simp[bO]⟩
     ·have hss:s=size:=by
       have hmem:((xs.drop k).take n)[0]'(by omega)∈(xs.drop k).take n:=List.getElem_mem _
       rw[←hs _ hmem]
       exact hall _ (List.mem_of_mem_drop (List.mem_of_mem_take hmem))
      subst hss
      obtain⟨news,q1,q2,q3,q4⟩:=Ai (P:=P) m hH hb hkn c
      exact⟨news,by simp[Builtin.lenOf];omega,fun w2 hw=>by rw[hln];exact q1 w2 hw,by rw[hln];exact q2,q3,q4⟩
  ·cases hy
 ·rename_i id k n c
  split at hy
  ·rename_i fz size xs hH
   injection hy with hy;subst hy
   have hob:=m.obj id
   simp only[fU,hH]at hob
   obtain⟨hpos,hall,hob⟩:=hob
   cases hx with
   |ocdead _ _ _ _ _ hd=>rw[hH]at hd;cases hd
   |oc _ _ _ _ p _ _ _ hH' hn hkc hc ha=>
    rw[hH]at hH';injection hH' with _ q1 q2;subst q1;subst q2
    have hln:((xs.drop k).take n).length=n:=by simp;omega
    rcases Nat.eq_zero_or_pos n with hz|hz
    ·subst hz
     have hnil:(xs.drop k).take 0=[]:=rfl
     exact⟨[],by simp[Builtin.lenOf],fun w2 _=>by simpa using empty _ c w2,by simp,by simp,by simp[bO]⟩
    ·rcases ha with ha|⟨b,hb,rfl⟩
     ·omega
     have hss:s=size:=by
      have hmem:((xs.drop k).take n)[0]'(by omega)∈(xs.drop k).take n:=List.getElem_mem _
      rw[←hs _ hmem]
      exact hall _ (List.mem_of_mem_drop (List.mem_of_mem_take hmem))
     subst hss
     obtain⟨news,q1,q2,q3,q4⟩:=Ai (P:=P) m hH hb (show k+n≤xs.length by omega) c
     exact⟨news,by simp[Builtin.lenOf];omega,fun w2 hw=>by rw[hln];exact q1 w2 hw,by rw[hln];exact q2,q3,q4⟩
  ·cases hy
 ·cases hy
theorem lY{t u ty e:TypeId}{d:TypeDesc}{i:TypeInfo}(ht:P.underlying t=some (.slice e))(hu:P.underlying u=some d)(hd:∀k,d≠ .int k)(hi:P.info? e=some i)
 {base:Option Addr}{sLen sCap m:Nat}{x:Value}{news:List Value}(hlen:(Builtin.lenOf x).run P w=.ok m w)(hf:∀w2:World,w2.heap=w.heap→(Builtin.firstCells i.size m x).run P w2=.ok news.toArray w2)
 (hroom:sLen+m≤sCap):(Builtin.append_ #[t,u] ty #[.slice base sLen sCap,x]).run P w=(match base with|some a=>(storeCells (a.add (sLen*i.size)) news).run P w|none=>.ok () w).andThen fun _ w'=>.ok (.slice base (sLen+m) sCap) w':=by
 have hf0:=hf w rfl
 cases base<;>simp[Builtin.append_,run_underlying ht,run_underlying hu,sizeOf,typeInfo,hi,hlen,hroom,hf0]
theorem qA{t u ty e:TypeId}{d:TypeDesc}{i:TypeInfo}{z:Value}(ht:P.underlying t=some (.slice e))(hu:P.underlying u=some d)(hd:∀k,d≠ .int k)(hi:P.info? e=some i)(hzz:i.zero=some z)
 {base:Option Addr}{sLen sCap m:Nat}{x:Value}{olds news:List Value}(hlen:(Builtin.lenOf x).run P w=.ok m w)(hf:∀w2:World,w2.heap=w.heap→(Builtin.firstCells i.size m x).run P w2=.ok news.toArray w2)
 (ho:∀w2:World,w2.heap=w.heap→(Builtin.firstCells i.size sLen (.slice base sLen sCap)).run P w2=.ok olds.toArray w2)
 (hroom:sCap<sLen+m)(h63:sLen+m≤9223372036854775807)(hfit:(sLen+m)*i.bytes≤140737488355328):
 (Builtin.append_ #[t,u] ty #[.slice base sLen sCap,x]).run P w=
   .ok (.slice (some ⟨w.heap.size,0,none⟩) (sLen+m) (grownCap w (sLen+m) sCap e)) (w.drew.alloc (.cells (olds.toArray++news.toArray++Builtin.zeroCells z.cells (grownCap w (sLen+m) sCap e-(sLen+m))) e)):=by
 have hn:¬(sLen+m≤sCap):=by omega
 have h63':¬(9223372036854775807<((sLen:Int)+(m:Int))):=by omega
 have h48:=growslice_fits hroom hfit
 have h48':¬(281474976710656<Builtin.nextslicecap (sLen+m) sCap*i.bytes):=by omega
 have hf1:=hf w.drew rfl
 have ho1:=ho w.drew rfl
 simp[Builtin.append_,run_underlying ht,run_underlying hu,sizeOf,typeInfo,hi,hlen,hn,h63',h48',hf1,ho1,hzz,zeroValue,newRow,Question.forced,grownCap]
 congr 2
 apply Array.ext'
 simp[List.append_assoc]
theorem iP{t u:TypeId}{s x:Operand}(ho:o.op=.call {callee:=.builtin .append,args:= #[s,x],argTypes:= #[t,u]}){v:Value}{w':World}
 (hr:(Builtin.append_ #[t,u] o.type #[a.eval s,a.eval x]).run P w=.ok v w'):(execOp a.eval o).run P w=.ok (.value v) w':=by
 unfold execOp
 simp only[ho,resolve,invoke,builtin,Sem.run_bind,Sem.run_pure,Result.andThen_ok,List.map_toArray,List.map_cons,List.map_nil,hr]
theorem yJ(m:fX w0 X H β w){d:Nat}(hd:H d=.absent){s need old:Nat}(hs:0<s){xs:List DV}(hall:∀x∈xs,(aE x).length=s){news:List Value}{e:TypeId}{z:Value}(hz:z.cells.size=s)(hxl:xs.length=need)
 (hnl:news.length=need*s)(hone:∀u∈news,u.oneCell'=true)(hp:∀(i:Nat) (d:DV) (u:Value),(bO xs)[i]? =some d→news[i]? =some u→RD w (Ex X β H) d u)(hn:0<need)(hmax:need≤140737488355328){cur:Array Value}
 (hcur:cur=news.toArray++Builtin.zeroCells z.cells (grownCap w need old e-need)):
 fX w0 X (cN H d (.row false s xs)) (cN β d (some w.heap.size)) (w.drew.alloc (.cells cur e))∧lF X H β w (cN H d (.row false s xs)) (cN β d (some w.heap.size)) (w.drew.alloc (.cells cur e))∧
  R (w.drew.alloc (.cells cur e)) (Ex X (cN β d (some w.heap.size)) (cN H d (.row false s xs))) (cN β d (some w.heap.size)) (cN H d (.row false s xs)) (.ow d 0 need) (.slice (some ⟨w.heap.size,0,none⟩) need (grownCap w need old e)):=by
 have hge:=grownCap_ge w need old e
 have hcm:grownCap w need old e≤maxLen:=grownCap_le_maxLen w need old e (by unfold maxLen;omega)
 have hcs:cur.size=grownCap w need old e*s:=by
  rw[hcur]
  simp only[Array.size_append,List.size_toArray,size_zeroCells,hz,hnl,←Nat.add_mul]
  congr 1;omega
 have hblk:(w.drew.alloc (.cells cur e)).heap[w.heap.size]? =some (.cells cur e (0,0)):=heap_alloc_new w.drew _
 have hle:xs.length*s≤cur.size:=by rw[hcs,hxl];exact Nat.mul_le_mul_right _ hge
 have:=Ag m hd hs hall e (cur:=cur) hle (fun i dd v hdd hv=>by
  have hi:i<news.length:=by have:=(List.getElem?_eq_some_iff.1 hdd).1;rw[gA hall,hxl]at this;omega
  rw[hcur,Array.getElem?_append_left (by simpa using hi)]at hv
  exact⟨hone v (List.mem_of_getElem? (by simpa using hv)),hp i dd v hdd (by simpa using hv)⟩) (w':=w.drew.alloc (.cells cur e)) ((En.refl _ _).drew.alloc (Nat.le_refl _) _) (by simp) hblk
 refine⟨this.1,this.2,?_⟩
 have hR:=R.ow (w:=w.drew.alloc (.cells cur e)) (E:=Ex X (cN β d (some w.heap.size)) (cN H d (.row false s xs))) (β:=cN β d (some w.heap.size)) (H:=cN H d (.row false s xs)) d 0 need w.heap.size (grownCap w need old e) false s xs cur e
  (by rw[aJ]) (by rw[aJ]) (by omega) hge hcm hblk (by rw[Nat.zero_add,hcs])
 rw[Nat.zero_mul]at hR
 exact hR
theorem Kx(hT:mA P T)(m:fX w0 X H β w)(hg:∀x,R w (Ex X β H) β H (g x) (a.eval x)){t u:TypeId}{s x:Operand}{dst:Nat}(ho:o.op=.call {callee:=.builtin .append,args:= #[s,x],argTypes:= #[t,u]})
 (hu:t=u∨(T u).k.isStr=true)(ht:∀e,(T t).k=.slice e→(T e).k.isNone=false)(hok:(cO T H dst t (g s) (g x)).ok):pP P w0 X H β w a o (cO T H dst t (g s) (g x)):=by
 have hs:=hg s
 have hx:=hg x
 generalize hgs:g s=ls at*
 generalize hgx:g x=lx at*
 unfold cO at*
 split at hok
 ·rename_i e ys hk hy
  have hut:=hT.slice hk
  obtain⟨inf,d0,z,h1,h2,h3,h4,h5,h6,h7⟩:=hT.parts (ht e hk)
  have huu:∃d,P.underlying u=some d∧∀k,d≠ .int k:=by
   rcases hu with rfl|hu
   ·exact⟨_,hut,fun k=>by simp⟩
   ·have:(T u).k=.str:=by cases q:(T u).k<;>simp_all[TK.isStr]
    exact⟨_,hT.str this,fun k=>by simp⟩
  obtain⟨d,hud,hdk⟩:=huu
  have hzs:z.cells.size=(T e).size:=by
   have:=(hT e (ht e hk)).len
   rw[←h7]at this
   simpa using this
  generalize hvs:a.eval s=vs at hs
  have small:∀(H1:Nat→aX) (b:Option Addr),vs=.slice b 0 0→fX w0 X H1 β w→lF X H β w H1 β w→H1 dst=.absent→0<(T e).size→(∀y∈ys,(aE y).length=(T e).size)→ys.length*(T e).bytes≤140737488355328→ys.length≤140737488355328→
   ∃v w' β',(execOp a.eval o).run P w=.ok (.value v) w'∧fX w0 X (cN H1 dst (.row false (T e).size ys)) β' w'∧lF X H β w (cN H1 dst (.row false (T e).size ys)) β' w'∧R w' (Ex X β' (cN H1 dst (.row false (T e).size ys))) β' (cN H1 dst (.row false (T e).size ys)) (.ow dst 0 ys.length) v:=by
   intro H1 b hv m1 g1 ha hpos hys hby hbl
   subst hv
   obtain⟨news,e1,e2,e3,e4,e5⟩:=mZ m hx hy hys
   rw[←h4]at e2
   rcases Nat.eq_zero_or_pos ys.length with hz|hz
   ·have hy0:ys=[]:=List.eq_nil_of_length_eq_zero hz
    subst hy0
    have hn0:news=[]:=List.eq_nil_of_length_eq_zero (by simpa using e3)
    subst hn0
    have hrun:=lY (P:=P) (w:=w) (ty:=o.type) (base:=b) (sLen:=0) (sCap:=0) hut hud hdk h1 e1 e2 (Nat.le_refl _)
    obtain⟨m2,g2⟩:=Ah m1 ha hpos
    refine⟨.slice b 0 0,w,cN β dst none,iP ho ?_,m2,g1.trans g2,.ow0 dst 0 b false (T e).size [] (by rw[aJ]) (.inl ⟨by rw[aJ],rfl⟩)⟩
    rw[hvs,hrun]
    cases b<;>simp[storeCells]
   ·have hold:∀w2:World,w2.heap=w.heap→(Builtin.firstCells inf.size 0 (.slice b 0 0)).run P w2=.ok (List.toArray []) w2:=by
     intro w2 _
     cases b<;>simp[Builtin.firstCells,loadCells,loadCellsFrom]
    have hrun:=qA (P:=P) (w:=w) (ty:=o.type) (base:=b) (sLen:=0) (sCap:=0) hut hud hdk h1 h6 e1 e2 hold (by omega) (by omega) (by rw[Nat.zero_add,h5];exact hby)
    obtain⟨m2,g2,hR⟩:=yJ m1 ha hpos hys hzs rfl e3 e4 (fun i d u hd hu=>g1.D (e5 i d u hd hu)) hz hbl (old:=0) (e:=e) (cur:=news.toArray++Builtin.zeroCells z.cells (grownCap w ys.length 0 e-ys.length)) rfl
    refine⟨_,_,_,iP ho ?_,m2,g1.trans g2,hR⟩
    rw[hvs,hrun]
    simp
  split at hok
  ·rename_i id k n
   split at hok
   ·rename_i sz xs hH
    simp only at hok⊢
    obtain⟨ha,hk0,hsz,hys,hby,hbl⟩:=hok
    subst hk0;subst hsz
    have hl:(H id).live=true:=by rw[hH];rfl
    have hne:dst≠id:=fun e=>by rw[e,hH]at ha;cases ha
    obtain⟨m1,g1⟩:=m.kill id hl
    have ha1:cN H id .dead dst=.absent:=by rw[cP _ _ hne];exact ha
    have hob:=m.obj id
    simp only[fU,hH]at hob
    obtain⟨hpos,hall,hob⟩:=hob
    have hup:∀o',bG H [(dst,o'),(id,aX.dead)]=cN (cN H id .dead) dst o':=fun o'=>by rw[mD,aQ]
    cases hs with
    |owdead _ _ _ _ hd=>rw[hH]at hd;cases hd
    |ow0 _ _ b=>
     obtain⟨v,w',β',q1,q2,q3,q4⟩:=small _ b rfl m1 g1 ha1 hpos hys (by rw[Nat.zero_add]at hby;exact hby) (by omega)
     refine bQ (β':=β') q1 ?_ ?_ ?_<;>simp only[hup,List.take_zero,List.nil_append,Nat.zero_add]
     ·exact q2
     ·exact q3
     ·exact q4
    |ow _ _ _ b c _ _ _ cur e' hH' hb hkn hn hc hblk hroom=>
     rw[hH]at hH';injection hH' with _ q1 q2;subst q1;subst q2
     rcases hob with⟨hnone,_⟩|⟨b',e'',cur',hb',hblk',hlen',hp⟩
     ·rw[hnone]at hb;cases hb
     ·rw[hb]at hb';injection hb' with hb';subst hb'
      rw[hblk]at hblk';injection hblk' with hblk';injection hblk' with p1 p2;subst p1;subst p2
      obtain⟨news,e1,e2,e3,e4,e5⟩:=mZ m hx hy hys
      rw[←h4]at e2
      have hnx:n≤xs.length:=by omega
      have hns:n*(T e).size≤xs.length*(T e).size:=Nat.mul_le_mul_right _ hnx
      have hcs:cur.toList.length=cur.size:=by simp
      have htk:(xs.take n).length=n:=by simp;omega
      have hallt:∀x∈xs.take n++ys,(aE x).length=(T e).size:=fun x hx=>by
       rcases List.mem_append.1 hx with hx|hx
       ·exact hall x (List.mem_of_mem_take hx)
       ·exact hys x hx
      have hfl:=gA hall
      have hflt:(bO (xs.take n)).length=n*(T e).size:=by rw[gA (fun x hx=>hall x (List.mem_of_mem_take hx)),htk]
      simp only[Nat.zero_mul,Nat.zero_add]at hvs hroom
      have hadd:(n+ys.length)*(T e).size=n*(T e).size+ys.length*(T e).size:=Nat.add_mul _ _ _
      by_cases hin:n+ys.length≤c
      ·have hfit:n*(T e).size+news.length≤cur.size:=by
        have:(n+ys.length)*(T e).size≤c*(T e).size:=Nat.mul_le_mul_right _ hin
        omega
       have hrun:=lY (P:=P) (w:=w) (ty:=o.type) (base:=some ⟨b,0,none⟩) (sLen:=n) (sCap:=c) hut hud hdk h1 e1 e2 hin
       have hst:=run_storeCells_at P b (n*(T e).size) e' news 0 cur w hblk (by omega) e4
       obtain⟨m2,g2⟩:=m.moveObj (id:=id) (d:=dst) n hH ha
       have hpl:(cU (n*(T e).size) cur.toList news).toArray.size=cur.size:=by rw[List.size_toArray,lM (by omega)];exact hcs
       have hfa:bO (xs.take n++ys)=bO (xs.take n)++bO ys:=nL _ _
       have hfy:(bO ys).length=ys.length*(T e).size:=gA hys
       have:=m2.rewrite (id:=dst) (b:=b) (o':=.row false (T e).size (xs.take n++ys)) (cur':=(cU (n*(T e).size) cur.toList news).toArray) (by rw[aJ];rfl) (by rw[aJ];exact hb) hblk (by omega)
        (.inr ⟨_,_,_,by rw[aJ],rfl,by simp⟩) (fun hD _=>by
          unfold fU
          rw[aJ]
          refine⟨hpos,hallt,.inr ⟨b,e',_,by rw[aJ];exact hb,setRow_heap w b _ _ e' (0,0) hblk,by rw[hpl,List.length_append,htk];omega,fun i d v hd hv=>?_⟩⟩
          simp only[List.getElem?_toArray]at hv
          rw[mV (by omega)]at hv
          rw[hfa]at hd
          have hi:i<n*(T e).size+ys.length*(T e).size:=by have:=(List.getElem?_eq_some_iff.1 hd).1;rw[List.length_append,hflt,hfy]at this;exact this
          by_cases hi2:i<n*(T e).size
          ·rw[if_pos hi2]at hv
           rw[List.getElem?_append_left (by omega),oD hall,List.getElem?_take,if_pos hi2]at hd
           have:=hp i d v hd (by simpa using hv)
           exact⟨this.1,hD _ _ (g2.D this.2)⟩
          ·rw[if_neg hi2,if_pos (by omega)]at hv
           rw[List.getElem?_append_right (by omega),hflt]at hd
           exact⟨e4 v (List.mem_of_getElem? hv),hD _ _ (g2.D (e5 _ d v hd hv))⟩)
       have hup2:cN (cN (cN H id .dead) dst (.row false (T e).size (xs.take n))) dst (.row false (T e).size (xs.take n++ys))=cN (cN H id .dead) dst (.row false (T e).size (xs.take n++ys)):=by
        funext j;simp only[cN];split<;>rfl
       rw[hup2]at this
       refine bQ (v:=.slice (some ⟨b,0,none⟩) (n+ys.length) c) (w':=w.setRow b (cU (n*(T e).size) cur.toList news).toArray) (β':=cN β dst (β id)) (iP ho ?_) ?_ ?_ ?_
       ·rw[hvs,hrun]
        simp only[Addr.add_lit,Nat.zero_add,h4]
        simp only[Nat.add_zero]at hst
        rw[hst]
        rfl
       ·simp only[hup];exact this.1
       ·simp only[hup];exact g2.trans this.2
       ·simp only[hup]
        have hR:=R.ow (w:=w.setRow b (cU (n*(T e).size) cur.toList news).toArray) (E:=Ex X (cN β dst (β id)) (cN (cN H id .dead) dst (.row false (T e).size (xs.take n++ys)))) (β:=cN β dst (β id)) (H:=cN (cN H id .dead) dst (.row false (T e).size (xs.take n++ys)))
         dst 0 (n+ys.length) b c false (T e).size (xs.take n++ys) _ e' (by rw[aJ]) (by rw[aJ];exact hb) (by rw[List.length_append,htk];omega) hin hc (setRow_heap w b _ _ e' (0,0) hblk) (by rw[hpl,Nat.zero_add];exact hroom)
        rw[Nat.zero_mul]at hR
        exact hR
      ·have hold:∀w2:World,w2.heap=w.heap→(Builtin.firstCells inf.size n (.slice (some ⟨b,0,none⟩) n c)).run P w2=.ok ((cur.toList.take (n*(T e).size)).toArray) w2:=by
        intro w2 hw
        refine sR (by rw[h4,List.length_take];omega) fun j u hu=>?_
        rw[AV hw,cell_of_row w b _ cur e' (0,0) hblk]
        rw[List.getElem?_take]at hu
        split at hu
        ·simpa using hu
        ·cases hu
       have hrun:=qA (P:=P) (w:=w) (ty:=o.type) (base:=some ⟨b,0,none⟩) (sLen:=n) (sCap:=c) hut hud hdk h1 h6 e1 e2 hold (by omega) (by omega) (by rw[h5];exact hby)
       have hxl:(xs.take n++ys).length=n+ys.length:=by rw[List.length_append,htk]
       obtain⟨m2,g2,hR⟩:=yJ m1 ha1 hpos hallt hzs hxl (news:=cur.toList.take (n*(T e).size)++news) (by rw[List.length_append,List.length_take];omega)
        (fun u hu=>by
          rcases List.mem_append.1 hu with hu|hu
          ·obtain⟨i,hi,rfl⟩:=List.getElem_of_mem hu
           rw[List.length_take]at hi
           simp only[List.getElem_take]
           exact(hp i ((bO xs)[i]'(by omega)) _ (List.getElem?_eq_getElem _) (by simp)).1
          ·exact e4 u hu)
        (fun i d u hd hu=>by
          have hl1:(cur.toList.take (n*(T e).size)).length=n*(T e).size:=by rw[List.length_take];omega
          rw[nL]at hd
          by_cases hi2:i<n*(T e).size
          ·rw[List.getElem?_append_left (by omega),List.getElem?_take,if_pos hi2]at hu
           rw[List.getElem?_append_left (by omega),oD hall,List.getElem?_take,if_pos hi2]at hd
           exact g1.D (hp i d u hd (by simpa using hu)).2
          ·rw[List.getElem?_append_right (by omega),hl1]at hu
           rw[List.getElem?_append_right (by omega),hflt]at hd
           exact g1.D (e5 _ d u hd hu))
        (by omega) hbl (old:=c) (e:=e) (cur:=(cur.toList.take (n*(T e).size)++news).toArray++Builtin.zeroCells z.cells (grownCap w (n+ys.length) c e-(n+ys.length))) rfl
       refine bQ (iP ho ?_) (by simp only[hup];exact m2) (by simp only[hup];exact g1.trans g2) (by simp only[hup];exact hR)
       rw[hvs,hrun]
       simp
   ·exact hok.elim
  ·simp only at hok⊢
   obtain⟨ha,hpos,hys,hby,hbl⟩:=hok
   cases hs with
   |nl b=>
    obtain⟨v,w',β',q1,q2,q3,q4⟩:=small _ b rfl m lF.refl ha hpos hys hby hbl
    refine bQ (β':=β') q1 ?_ ?_ ?_<;>simp only[aQ]
    ·exact q2
    ·exact q3
    ·exact q4
  ·exact hok.elim
 ·exact hok.elim
end
end Go.Eng
namespace Go.Eng
open Go.RowKit
section
variable{P:Program} {T:TypeId→lA} {w0:iU} {X:Nat→Prop} {H:Nat→aX} {β:Nat→Option Nat} {w:World} {a:Act} {o:Oper} {g:Operand→LV} {E:Nat→Prop}
theorem RD.sl_len{xs:List DV}{v:Value}(h:RD w E (.sl xs) v):∃b c,v=.slice b xs.length c∧xs.length≤c∧c≤maxLen:=by
 cases h with
 |sl0 a c hc=>exact⟨a,c,rfl,Nat.zero_le _,hc⟩
 |sl _ b off c _ _ _ _ _ hlen hc=>exact⟨_,c,rfl,hlen,hc⟩
theorem qV{t ty e:TypeId}(h:P.underlying t=some (.slice e))(b:Option Addr)(n c:Nat):(Builtin.len_ #[t] ty #[.slice b n c]).run P w=.ok (.int .i64 n) w:=by
 simp only[Builtin.len_,List.getElem?_toArray,List.getElem?_cons_zero,Sem.run_bind,run_underlying h,Result.andThen_ok,Sem.run_pure,goInt]
theorem Gt{t ty:TypeId}(h:P.underlying t=some .string)(s:ByteArray):(Builtin.len_ #[t] ty #[.string s]).run P w=.ok (.int .i64 s.size) w:=by
 simp only[Builtin.len_,List.getElem?_toArray,List.getElem?_cons_zero,Sem.run_bind,run_underlying h,Result.andThen_ok,Sem.run_pure,goInt]
theorem Gu{t ty e:TypeId}{n:Nat}(h:P.underlying t=some (.array n e))(v:Value):(Builtin.len_ #[t] ty #[v]).run P w=.ok (.int .i64 n) w:=by
 simp only[Builtin.len_,List.getElem?_toArray,List.getElem?_cons_zero,Sem.run_bind,run_underlying h,Result.andThen_ok,Sem.run_pure,goInt]
theorem CQ{t ty kt et:TypeId}{b clock:Nat}{arr:Array MapEntry}(h:P.underlying t=some (.map kt et))(hb:w.heap[b]? =some (.map arr clock)):(Builtin.len_ #[t] ty #[.map (some b)]).run P w=.ok (.int .i64 arr.size) w:=by
 have hg:(getObj b).run P w=.ok (.map arr clock) w:=by simp[getObj,Sem.run,hb]
 simp only[Builtin.len_,List.getElem?_toArray,List.getElem?_cons_zero,Sem.run_bind,run_underlying h,Result.andThen_ok,Sem.run_pure,goInt,hg]
theorem Qr(hT:mA P T)(m:fX w0 X H β w)(hg:∀x,R w (Ex X β H) β H (g x) (a.eval x)){t:TypeId}{x:Operand}(ho:o.op=.call {callee:=.builtin .len,args:= #[x],argTypes:= #[t]})
 (hok:(hO T H t (g x)).ok):pP P w0 X H β w a o (hO T H t (g x)):=by
 have hx:=hg x
 generalize g x=lx at*
 generalize hval:a.eval x=vx at hx
 have fin:∀{v:Value},(Builtin.len_ #[t] o.type #[vx]).run P w=.ok v w→(execOp a.eval o).run P w=.ok (.value v) w:=by
  intro v hr
  simp only[execOp,ho,resolve,invoke,builtin,Sem.run_bind,Sem.run_pure,Result.andThen_ok,List.map_toArray,List.map_cons,List.map_nil,hval,hr]
 unfold hO at*
 split at hok
 ·rename_i s hk
  have:=hx.str;subst this
  exact pP.plain m (fin (Gt (hT.str hk) _)) (cI _ _)
 ·rename_i e xs hk
  cases hx with
  |d _ _ hx=>
   obtain⟨b,c,hv,_⟩:=hx.sl_len
   clear hx
   subst hv
   exact pP.plain m (fin (qV (hT.slice hk) _ _ _)) (cI _ _)
 ·rename_i e id k n hk
  have hu:=hT.slice hk
  simp only[oZ.cond]at hok⊢
  cases hx with
  |ow _ _ _ b c=>exact pP.plain m (fin (qV hu _ _ _)) (cI _ _)
  |ow0 _ _ b=>exact pP.plain m (fin (qV hu _ _ _)) (cI _ _)
  |owdead _ _ _ _ hd=>rw[hd]at hok;cases hok
 ·rename_i e id k n c hk
  have hu:=hT.slice hk
  simp only[oZ.cond]at hok⊢
  cases hx with
  |oc _ _ _ _ p=>exact pP.plain m (fin (qV hu _ _ _)) (cI _ _)
  |ocdead _ _ _ _ _ hd=>rw[hd]at hok;cases hok
 ·rename_i e hk
  cases hx with
  |nl b=>exact pP.plain m (fin (qV (hT.slice hk) _ _ _)) (cI _ _)
 ·rename_i n e hk
  exact pP.plain m (fin (Gu (hT.arr hk) _)) (cI _ _)
 ·rename_i kt et ks vs hk
  cases hx with
  |d _ _ hx=>cases hx with
   |mp _ _ b clock arr _ _ hblk hkl=>
    rw[hkl]
    exact pP.plain m (fin (CQ (hT.mapd hk) hblk)) (cI _ _)
 ·rename_i kt et id hk
  split at hok
  ·rename_i fz ks vs hH
   have ho:=m.obj id
   simp only[fU,hH]at ho
   obtain⟨b,arr,clock,hb,hblk,hkl,_⟩:=ho
   cases hx with
   |mp _ b' _ _ _ hH' hb'=>
    rw[hb]at hb';injection hb' with hb';subst hb'
    rw[hkl]
    exact pP.plain m (fin (CQ (hT.mapd hk) hblk)) (cI _ _)
   |mpdead _ _ hd=>rw[hH]at hd;cases hd
  ·exact hok.elim
 ·exact hok.elim
theorem My(m:fX w0 X H β w)(hg:∀x,R w (Ex X β H) β H (g x) (a.eval x)){mx:Bool}{args:Array Operand}{ts:Array TypeId}(ho:o.op=.call {callee:=.builtin (if mx then .max else .min),args:=args,argTypes:=ts})
 (hok:(iW mx (args.toList.map g)).ok):pP P w0 X H β w a o (iW mx (args.toList.map g)):=by
 obtain⟨l⟩:=args
 simp only at hok⊢
 unfold iW at*
 split at hok
 ·rename_i k x k' y hl
  split at hok
  ·rename_i hk
   subst hk
   rw[if_pos rfl]
   have hform:∃p q,l=[p,q]:=by
    have:=congrArg List.length hl
    simp only[List.length_map,List.length_cons,List.length_nil]at this
    match l,this with
    |[p,q],_=>exact⟨p,q,rfl⟩
   obtain⟨p,q,rfl⟩:=hform
   ·simp only[List.map_cons,List.map_nil,List.cons.injEq,and_true]at hl
    have hp:=hg p
    have hq:=hg q
    rw[hl.1]at hp
    rw[hl.2]at hq
    have e1:=hp.int
    have e2:=hq.int
    cases mx
    ·refine pP.plain m (v:=.int k (if y<x then y else x)) ?_ (cI _ _)
     simp only[execOp,ho,resolve,invoke,builtin,Sem.run_bind,Sem.run_pure,Result.andThen_ok,List.map_toArray,List.map_cons,List.map_nil,e1,e2,Bool.false_eq_true,if_false,Builtin.min_,List.foldlM_cons,List.foldlM_nil,Builtin.min2]
    ·refine pP.plain m (v:=.int k (if y>x then y else x)) ?_ (cI _ _)
     simp only[execOp,ho,resolve,invoke,builtin,Sem.run_bind,Sem.run_pure,Result.andThen_ok,List.map_toArray,List.map_cons,List.map_nil,e1,e2,if_true,Builtin.max_,List.foldlM_cons,List.foldlM_nil,Builtin.max2]
  ·exact hok.elim
 ·exact hok.elim
theorem Ii(m:fX w0 X H β w)(hg:∀x,R w (Ex X β H) β H (g x) (a.eval x)){x:Operand}{i:Nat}(ho:o.op=.extract x i)(hok:(dO (g x) i).ok):pP P w0 X H β w a o (dO (g x) i):=by
 have hx:=hg x
 generalize g x=lx at*
 generalize hval:a.eval x=vx at hx
 unfold dO at*
 split at hok
 ·rename_i vs
  simp only[oZ.cond]at hok⊢
  cases hx with
  |tup _ us hl hp=>
   have hi:i<us.length:=by omega
   refine pP.plain m (v:=us[i]) ?_ (hp i _ _ (by simp[List.getD_eq_getElem?_getD,hok]) (List.getElem?_eq_getElem hi))
   simp[execOp,ho,Instr.extract,hval,hi]
 ·exact hok.elim
theorem OU(hT:mA P T)(m:fX w0 X H β w)(hg:∀x,R w (Ex X β H) β H (g x) (a.eval x)){s t:TypeId}{x:Operand}(ho:o.op=.convert s t x)(hok:(eO T H s t (g x)).ok):pP P w0 X H β w a o (eO T H s t (g x)):=by
 have hx:=hg x
 generalize g x=lx at*
 generalize hval:a.eval x=vx at hx
 unfold eO at*
 split at hok
 ·rename_i k' k k2 n hk1 hk2
  have h1:=hT.int hk1
  have h2:=hT.int hk2
  have:=hx.int;subst this
  exact pP.plain m (v:=.int k (k.wrap n)) (by simp[execOp,ho,hval,convert,run_underlying h1,run_underlying h2,Conv.intToInt]) (cI _ _)
 ·rename_i s' hk1 hk2
  have h1:=hT.str hk1
  have h2:=hT.str hk2
  have:=hx.str;subst this
  exact pP.plain m (v:=.string ⟨s'.toArray⟩) (by simp[execOp,ho,hval,convert,run_underlying h1,run_underlying h2]) (Ac _)
 ·rename_i lx _ _ _ e hk1 hk2
  split at hok
  ·rename_i ys hk3 hy
   simp only[oZ.cond]at hok⊢
   have h1:=hT.slice hk1
   have h2:=hT.str hk2
   have h3:=hT.int hk3
   have hns:∀s',lx≠ .d (.str s'):=by intro s' e;subst e;simp[kP]at hy
   have hy':cH H lx=some ys:=by
    unfold kP at hy
    split at hy
    ·exact absurd rfl (hns _)
    ·exact hy
   obtain⟨news,e1,e2,e3,e4,e5⟩:=mZ (P:=P) m hx hy' (s:=1) (fun y hy=>by obtain⟨n,rfl⟩:=hok y hy;rfl)
   have hform:∃b c,vx=.slice b ys.length c:=by
    clear hval hy e2 e5
    cases vx<;>simp only[Builtin.lenOf,run_stuck,Sem.run_pure,Result.ok.injEq,and_true,reduceCtorEq]at e1
    case slice b n c=>exact⟨b,c,by rw[e1]⟩
    case string str=>
     exfalso
     unfold cH at hy'
     split at hy'
     ·cases hx with|d _ _ hx=>cases hx
     ·exact absurd rfl (hns _)
     ·cases hx
     ·split at hy'
      ·rename_i hH
       cases hx with|owdead _ _ _ _ hd=>rw[hH]at hd;cases hd
      ·cases hy'
     ·split at hy'
      ·rename_i hH
       cases hx with|ocdead _ _ _ _ _ hd=>rw[hH]at hd;cases hd
      ·cases hy'
     ·cases hy'
   obtain⟨b,c,hv⟩:=hform
   have hfl:bO ys=ys:=by
    have key:∀l:List DV,(∀y∈l,∃n,y=.int .u8 n)→bO l=l:=by
     intro l
     induction l with
     |nil=>intro _;rfl
     |cons y t ih=>
      intro hl
      obtain⟨n,rfl⟩:=hl y (by simp)
      have:=ih (fun y hy=>hl y (by simp[hy]))
      simp only[bO,List.flatMap_cons]at*
      rw[this];rfl
    exact key ys hok
   rw[hfl]at e5
   have hnews:news=(ys.map fun| .int _ n=>n|_=>0).map (Value.int .u8):=by
    apply List.ext_getElem
    ·simp[e3]
    ·intro i h1 h2
     have hi:i<ys.length:=by omega
     obtain⟨n,hn⟩:=hok _ (List.getElem_mem hi)
     have:=e5 i _ _ (List.getElem?_eq_getElem hi) (List.getElem?_eq_getElem h1)
     rw[hn]at this
     have hd:=R.int (R.d (β:=β) (H:=H) _ _ this)
     rw[hd]
     simp[hn]
   have hstr:∀(l:List Int) (r:ByteArray),l.foldl (fun r n=>r.push (UInt8.ofNat n.toNat)) r=⟨(r.data.toList++l.map fun n=>UInt8.ofNat n.toNat).toArray⟩:=by
    intro l
    induction l with
    |nil=>intro r;simp
    |cons x t ih=>intro r;rw[List.foldl_cons,ih];simp[ByteArray.push]
   have hbytes:(ys.map fun| .int _ n=>n|_=>0).map (fun n:Int=>UInt8.ofNat n.toNat)=ys.map Ic:=by
    rw[List.map_map]
    apply List.map_congr_left
    intro y hy
    obtain⟨n,rfl⟩:=hok y hy
    rfl
   refine pP.plain m (v:=.string ⟨(ys.map Ic).toArray⟩) ?_ (Ac _)
   subst hv
   cases b with
   |none=>
    have hz:ys=[]:=by
     have:=e2 w rfl
     simp only[Builtin.firstCells,Sem.run_pure,Result.ok.injEq,and_true]at this
     have hn0:news=[]:=by simpa using this.symm
     rw[hn0]at e3
     exact List.eq_nil_of_length_eq_zero (by simpa using e3.symm)
    subst hz
    simp[execOp,ho,hval,convert,run_underlying h1,run_underlying h2,run_underlying h3,Conv.bytesToString]
    rfl
   |some b=>
    have hl:=e2 w rfl
    simp only[Builtin.firstCells,Nat.mul_one]at hl
    rw[hnews]at hl
    have hr:=run_bytesToString w b ys.length c _ hl
    rw[hstr,hbytes]at hr
    simp[execOp,ho,hval,convert,run_underlying h1,run_underlying h2,run_underlying h3,hr]
  ·exact hok.elim
 ·exact hok.elim
theorem Gv(m:fX w0 X H β w)(hg:∀x,R w (Ex X β H) β H (g x) (a.eval x)){f:FuncId}{first cs:Array Operand}(ho:o.op=.makeFunc (.func f) first cs)(hok:(if first.size=0 then oZ.plain (.fn f (cs.toList.map g))else oZ.cond (.bm f (first.toList.map g)) (cs.size=0)).ok):
 pP P w0 X H β w a o (if first.size=0 then oZ.plain (.fn f (cs.toList.map g))else oZ.cond (.bm f (first.toList.map g)) (cs.size=0)):=by
 have pt:∀xs:Array Operand,∀(i:Nat) (l:LV) (v:Value),(xs.toList.map g)[i]? =some l→(xs.toList.map a.eval)[i]? =some v→R w (Ex X β H) β H l v:=fun xs i l v hl hv=>by
  obtain⟨x,hx,rfl⟩:=lP hl
  obtain⟨y,hy,rfl⟩:=lP hv
  rw[hx]at hy;injection hy with hy;subst hy
  exact hg x
 have ea:∀xs:Array Operand,(xs.toList.map a.eval).toArray=xs.map a.eval:=fun xs=>by apply Array.ext';simp
 split at hok
 ·rename_i h0
  rw[if_pos h0]
  have h0':first= #[]:=by simpa using h0
  subst h0'
  refine pP.plain m (v:=.func (.func f) #[] (cs.toList.map a.eval).toArray) ?_ (.fn f _ _ (by simp) (pt cs))
  simp[execOp,ho,Instr.makeFunc,ea]
 ·rename_i h0
  rw[if_neg h0]
  have h1:cs= #[]:=by simpa [oZ.cond]using hok
  subst h1
  refine pP.plain m (v:=.func (.func f) (first.toList.map a.eval).toArray #[]) ?_ (.bm f _ _ (by simp) (pt first))
  simp[execOp,ho,Instr.makeFunc,ea]
end
end Go.Eng
namespace Go.Eng
open Go.RowKit
theorem vO:∀{σ:List (Nat×Nat)} {i j:Nat},dR σ i=some j→(i,j)∈σ
 |[],_,_,h=>by simp[dR]at h
 |p::r,i,j,h=>by
  simp only[dR]at h
  split at h
  ·rename_i e;injection h with h;subst e;subst h;exact List.mem_cons_self ..
  ·exact List.mem_cons_of_mem _ (vO h)
theorem qW{α γ:Type}{f:α→γ}:∀{l:List α},(l.map f).Nodup→∀p q,p∈l→q∈l→f p=f q→p=q
 |[],_,_,_,hp,_,_=>by cases hp
 |x::r,h,p,q,hp,hq,e=>by
  simp only[List.map_cons,List.nodup_cons]at h
  rcases List.mem_cons.1 hp with hp1|hp1<;>rcases List.mem_cons.1 hq with hq1|hq1
  ·rw[hp1,hq1]
  ·exact absurd (List.mem_map.2 ⟨q,hq1,by rw[←e,hp1]⟩) h.1
  ·exact absurd (List.mem_map.2 ⟨p,hp1,by rw[e,hq1]⟩) h.1
  ·exact qW h.2 p q hp1 hq1 e
theorem kT(σ:List (Nat×Nat))(o:aX):(cD σ o).live=o.live:=by cases o<;>rfl
theorem uO(σ:List (Nat×Nat))(o:aX):(cD σ o).mut=o.mut:=by cases o<;>rfl
theorem R.ren{w:World}{E E':Nat→Prop}{β β':Nat→Option Nat}{H H':Nat→aX}{σ:List (Nat×Nat)}(hD:∀x v,RD w E x v→RD w E' x v)(hH:∀i j,dR σ i=some j→H' j=cD σ (H i)∧β' j=β i):
 ∀(n:Nat) (l:LV) (v:Value),R w E β H l v→R w E' β' H' (ren σ n l) v:=by
 intro n
 induction n with
 |zero=>intro l v _;exact .junk _
 |succ n ih=>
  intro l v h
  have list:∀(cs:List LV) (vs:List Value),(∀(i:Nat) (c:LV) (v:Value),cs[i]? =some c→vs[i]? =some v→R w E β H c v)→∀(i:Nat) (c:LV) (v:Value),(cs.map (Eng.ren σ n))[i]? =some c→vs[i]? =some v→R w E' β' H' c v:=by
   intro cs vs hp i c v hc hv
   obtain⟨c0,hc0,rfl⟩:=lP hc
   exact ih _ _ (hp i c0 v hc0 hv)
  cases h with
  |d x v h=>exact .d _ _ (hD _ _ h)
  |agg cs vs hl h1 h=>exact .agg _ vs (by simpa using hl) h1 (list cs vs h)
  |fn f cs vs hl h=>exact .fn f _ vs (by simpa using hl) (list cs vs h)
  |bm f cs vs hl h=>exact .bm f _ vs (by simpa using hl) (list cs vs h)
  |tup cs vs hl h=>exact .tup _ vs (by simpa using hl) (list cs vs h)
  |bx id off b fz cs h1 h2=>
   simp only[Eng.ren]
   cases q:dR σ id with
   |none=>exact .junk _
   |some j=>obtain⟨e1,e2⟩:=hH id j q;exact .bx j off b fz _ (by rw[e1,h1];rfl) (by rw[e2];exact h2)
  |bxdead id off v h1 h2=>
   simp only[Eng.ren]
   cases q:dR σ id with
   |none=>exact .junk _
   |some j=>obtain⟨e1,e2⟩:=hH id j q;exact .bxdead j off v (by rw[e1,h1];rfl) h2
  |rp id k j b fz size xs h1 h2=>
   simp only[Eng.ren]
   cases q:dR σ id with
   |none=>exact .junk _
   |some i=>obtain⟨e1,e2⟩:=hH id i q;exact .rp i k j b fz size xs (by rw[e1,h1];rfl) (by rw[e2];exact h2)
  |rpdead id k j v h1 h2=>
   simp only[Eng.ren]
   cases q:dR σ id with
   |none=>exact .junk _
   |some i=>obtain⟨e1,e2⟩:=hH id i q;exact .rpdead i k j v (by rw[e1,h1];rfl) h2
  |ow id k m b c fz size xs cur e h1 h2 h3 h4 h5 h6 h7=>
   simp only[Eng.ren]
   cases q:dR σ id with
   |none=>exact .junk _
   |some i=>obtain⟨e1,e2⟩:=hH id i q;exact .ow i k m b c fz size xs cur e (by rw[e1,h1];rfl) (by rw[e2];exact h2) h3 h4 h5 h6 h7
  |ow0 id k a fz size xs h1 h2=>
   simp only[Eng.ren]
   cases q:dR σ id with
   |none=>exact .junk _
   |some i=>obtain⟨e1,e2⟩:=hH id i q;exact .ow0 i k a fz size xs (by rw[e1,h1];rfl) (by rw[e2];exact h2)
  |owdead id k m v h1 h2=>
   simp only[Eng.ren]
   cases q:dR σ id with
   |none=>exact .junk _
   |some i=>obtain⟨e1,e2⟩:=hH id i q;exact .owdead i k m v (by rw[e1,h1];rfl) h2
  |oc id k m c p fz size xs h1 h2 h3 h4 h5=>
   simp only[Eng.ren]
   cases q:dR σ id with
   |none=>exact .junk _
   |some i=>obtain⟨e1,e2⟩:=hH id i q;exact .oc i k m c p fz size xs (by rw[e1,h1];rfl) h2 h3 h4 (by rw[e2];exact h5)
  |ocdead id k m c v h1 h2=>
   simp only[Eng.ren]
   cases q:dR σ id with
   |none=>exact .junk _
   |some i=>obtain⟨e1,e2⟩:=hH id i q;exact .ocdead i k m c v (by rw[e1,h1];rfl) h2
  |when=>exact .junk _
  |nl a=>exact .nl a
  |mp id b fz ks vs h1 h2=>
   simp only[Eng.ren]
   cases q:dR σ id with
   |none=>exact .junk _
   |some i=>obtain⟨e1,e2⟩:=hH id i q;exact .mp i b fz ks vs (by rw[e1,h1];rfl) (by rw[e2];exact h2)
  |mpdead id v h1 h2=>
   simp only[Eng.ren]
   cases q:dR σ id with
   |none=>exact .junk _
   |some i=>obtain⟨e1,e2⟩:=hH id i q;exact .mpdead i v (by rw[e1,h1];rfl) h2
  |it id b fz ks vs h1 h2=>
   simp only[Eng.ren]
   cases q:dR σ id with
   |none=>exact .junk _
   |some i=>obtain⟨e1,e2⟩:=hH id i q;exact .it i b fz ks vs (by rw[e1,h1];rfl) (by rw[e2];exact h2)
  |itdead id v h1 h2=>
   simp only[Eng.ren]
   cases q:dR σ id with
   |none=>exact .junk _
   |some i=>obtain⟨e1,e2⟩:=hH id i q;exact .itdead i v (by rw[e1,h1];rfl) h2
  |junk=>exact .junk _
theorem cC.of_ren{σ:List (Nat×Nat)}{w w':World}{β β1 β2:Nat→Option Nat}{H0 H1 H2:Nat→aX}{id:Nat}(h:cC w β H0 w' β1 H1 id)(e:H2 id=cD σ (H1 id))(eb:β2 id=β1 id):cC w β H0 w' β2 H2 id:=by
 unfold cC at*
 rw[e,eb]
 cases q:H0 id with
 |absent=>trivial
 |dead=>simp only[q]at h;simp only[h,cD]
 |box fz cs=>
  simp only[q]at h
  rcases h with h|⟨⟨fz',cs',h⟩,hb⟩
  ·exact .inl (by rw[h];rfl)
  ·exact .inr ⟨⟨fz',_,by rw[h];rfl⟩,hb⟩
 |row fz s xs=>
  simp only[q]at h
  rcases h with h|⟨⟨fz',xs',h,hl⟩,hb⟩
  ·exact .inl (by rw[h];rfl)
  ·exact .inr ⟨⟨fz',xs',by rw[h];rfl,hl⟩,hb⟩
 |map fz ks vs=>
  simp only[q]at h
  rcases h with h|⟨⟨fz',k',v',h⟩,hb⟩
  ·exact .inl (by rw[h];rfl)
  ·exact .inr ⟨⟨fz',k',v',by rw[h];rfl⟩,hb⟩
 |iter fz ks vs=>
  simp only[q]at h
  rcases h with h|⟨⟨fz',k',v',h⟩,hb⟩
  ·exact .inl (by rw[h];rfl)
  ·exact .inr ⟨⟨fz',k',v',by rw[h];rfl⟩,hb⟩
 |know x v=>trivial
theorem Ij{σ τ:List (Nat×Nat)}{w w':World}{β β1 β2 β3:Nat→Option Nat}{H H1 H2 H3:Nat→aX}{id j:Nat}(h:cC w β1 H1 w' β2 H2 j)(e:H1 j=cD σ (H id))(eb:β1 j=β id)(e':H3 id=cD τ (H2 j))(eb':β3 id=β2 j):cC w β H w' β3 H3 id:=by
 unfold cC at*
 rw[e,eb]at h
 rw[e',eb']
 cases q:H id with
 |absent=>trivial
 |dead=>rw[q]at h;simp only[cD]at h⊢;rw[h]
 |box fz cs=>
  rw[q]at h
  simp only[cD]at h
  rcases h with h|⟨⟨fz',cs',h⟩,hb⟩
  ·exact .inl (by rw[h];rfl)
  ·exact .inr ⟨⟨fz',_,by rw[h];rfl⟩,hb⟩
 |row fz s xs=>
  rw[q]at h
  simp only[cD]at h
  rcases h with h|⟨⟨fz',xs',h,hl⟩,hb⟩
  ·exact .inl (by rw[h];rfl)
  ·exact .inr ⟨⟨fz',xs',by rw[h];rfl,hl⟩,hb⟩
 |map fz ks vs=>
  rw[q]at h
  simp only[cD]at h
  rcases h with h|⟨⟨fz',k',v',h⟩,hb⟩
  ·exact .inl (by rw[h];rfl)
  ·exact .inr ⟨⟨fz',k',v',by rw[h];rfl⟩,hb⟩
 |iter fz ks vs=>
  rw[q]at h
  simp only[cD]at h
  rcases h with h|⟨⟨fz',k',v',h⟩,hb⟩
  ·exact .inl (by rw[h];rfl)
  ·exact .inr ⟨⟨fz',k',v',by rw[h];rfl⟩,hb⟩
 |know x v=>trivial
def oQ(l:List (Nat×Nat))(β:Nat→Option Nat)(j:Nat):Option Nat:=((l.find? fun p=>p.2=j).map fun p=>p.1).bind β
theorem Mz(σ:List (Nat×Nat))(H:Nat→aX)(β:Nat→Option Nat)(j:Nat):∀l:List (Nat×Nat),
 (∃p∈l,p.2=j∧aK (l.map fun p=>(p.2,cD σ (H p.1))) j=cD σ (H p.1)∧oQ l β j=β p.1)∨
   (aK (l.map fun p=>(p.2,cD σ (H p.1))) j=.absent∧oQ l β j=none∧∀p∈l,p.2≠j):=by
 intro l
 unfold aK oQ
 induction l with
 |nil=>right;exact⟨rfl,rfl,by simp⟩
 |cons q r ih=>
  by_cases hq:q.2=j
  ·left
   exact⟨q,List.mem_cons_self ..,hq,by simp[lG,hq],by simp[hq]⟩
  ·simp only[List.map_cons,lG,if_neg (fun e:j=q.2=>hq e.symm),List.find?_cons]
   have:(decide (q.2=j))=false:=by simpa using hq
   simp only[this]
   rcases ih with⟨p,hp,h1,h2,h3⟩|⟨h1,h2,h3⟩
   ·exact .inl ⟨p,List.mem_cons_of_mem _ hp,h1,h2,h3⟩
   ·refine .inr ⟨h1,h2,fun p hp=>?_⟩
    rcases List.mem_cons.1 hp with rfl|hp
    ·exact hq
    ·exact h3 p hp
theorem Ky(τ:List (Nat×Nat))(F H:Nat→aX)(β:Nat→Option Nat)(j:Nat):∀l:List (Nat×Nat),
 (∃p∈l,p.2=j∧bG H (l.map fun p=>(p.2,cD τ (F p.1))) j=cD τ (F p.1)∧oQ l β j=β p.1)∨
   (bG H (l.map fun p=>(p.2,cD τ (F p.1))) j=H j∧∀p∈l,p.2≠j):=by
 intro l
 unfold oQ
 induction l with
 |nil=>right;exact⟨rfl,by simp⟩
 |cons q r ih=>
  by_cases hq:q.2=j
  ·left
   exact⟨q,List.mem_cons_self ..,hq,by simp[bG,hq],by simp[hq]⟩
  ·simp only[List.map_cons,bG,if_neg (fun e:j=q.2=>hq e.symm),List.find?_cons]
   have:(decide (q.2=j))=false:=by simpa using hq
   simp only[this]
   rcases ih with⟨p,hp,h1,h2,h3⟩|⟨h1,h3⟩
   ·exact .inl ⟨p,List.mem_cons_of_mem _ hp,h1,h2,h3⟩
   ·refine .inr ⟨h1,fun p hp=>?_⟩
    rcases List.mem_cons.1 hp with rfl|hp
    ·exact hq
    ·exact h3 p hp
theorem fU.ren{w:World}{E E':Nat→Prop}{β β':Nat→Option Nat}{H H':Nat→aX}{σ:List (Nat×Nat)}(hE:∀k,E' k→E k)(hH:∀i j,dR σ i=some j→H' j=cD σ (H i)∧β' j=β i)
 {i j:Nat}(e1:H' j=cD σ (H i))(e2:β' j=β i)(ho:fU w E β H i):fU w E' β' H' j:=by
 have hD:∀x v,RD w E x v→RD w E' x v:=fun x v h=>h.anti hE
 have hR:=R.ren hD hH
 unfold fU at*
 rw[e1]
 cases q:H i with
 |absent=>trivial
 |dead=>trivial
 |box fz cs=>
  rw[q]at ho
  simp only[cD]at ho⊢
  obtain⟨b,e,us,h1,h2,h3,h4,h5⟩:=ho
  refine⟨b,e,us,by rw[e2];exact h1,h2,by simpa using h3,h4,fun i c v hc hv=>?_⟩
  obtain⟨c0,hc0,rfl⟩:=lP hc
  exact hR 8 _ _ (h5 i c0 v hc0 hv)
 |row fz size xs=>
  rw[q]at ho
  simp only[cD]at ho⊢
  obtain⟨h1,h2,h3⟩:=ho
  refine⟨h1,h2,?_⟩
  rcases h3 with⟨h3,h4⟩|⟨b,e,cur,h3,h4,h5,h6⟩
  ·exact .inl ⟨by rw[e2];exact h3,h4⟩
  ·exact .inr ⟨b,e,cur,by rw[e2];exact h3,h4,h5,fun i d v hd hv=>⟨(h6 i d v hd hv).1,hD _ _ (h6 i d v hd hv).2⟩⟩
 |map fz ks vs=>
  rw[q]at ho
  simp only[cD]at ho⊢
  obtain⟨b,arr,clock,h1,h2,h3,h4,h5,h6,h7⟩:=ho
  exact⟨b,arr,clock,by rw[e2];exact h1,h2,h3,h4,h5,fun i d e hd he=>hD _ _ (h6 i d e hd he),fun i d e hd he=>hD _ _ (h7 i d e hd he)⟩
 |iter fz ks vs=>
  rw[q]at ho
  simp only[cD]at ho⊢
  obtain⟨b,bm,arr,clock,seen,last,h1,h2,h3,h4,h5,h6,h7,h8,h9,h10,h11⟩:=ho
  exact⟨b,bm,arr,clock,seen,last,by rw[e2];exact h1,h2,fun h=>h3 (hE _ h),h4,h5,h6,h7,h8,h9,fun i d e hd he=>hD _ _ (h10 i d e hd he),fun i d e hd he=>hD _ _ (h11 i d e hd he)⟩
 |know x v=>
  rw[q]at ho
  simp only[cD]at ho⊢
  exact hR 8 _ _ ho
section
variable{w0:iU} {X:Nat→Prop} {H:Nat→aX} {β:Nat→Option Nat} {w:World}
theorem fX.callG(m:fX w0 X H β w)(σ new:List (Nat×Nat))(hn1:((iV σ new).map (·.1)).Nodup)(hn2:((iV σ new).map (·.2)).Nodup)(hnew:∀p∈new,H p.2=.absent):
 ∃(Xc:Nat→Prop) (βc:Nat→Option Nat),(∀k,Xc k→k<w.heap.size)∧
  fX ⟨w,βc,aK (σ.map fun p=>(p.2,cD σ (H p.1))),σ.map (·.2),false⟩ Xc (aK (σ.map fun p=>(p.2,cD σ (H p.1)))) βc w∧
  (∀x v,RD w (Ex X β H) x v→RD w (Ex Xc βc (aK (σ.map fun p=>(p.2,cD σ (H p.1))))) x v)∧
  (∀l v,R w (Ex X β H) β H l v→R w (Ex Xc βc (aK (σ.map fun p=>(p.2,cD σ (H p.1))))) βc (aK (σ.map fun p=>(p.2,cD σ (H p.1)))) (Eng.ren σ 8 l) v)∧
  ∀(F:Nat→aX) (β':Nat→Option Nat) (w':World),fX ⟨w,βc,aK (σ.map fun p=>(p.2,cD σ (H p.1))),σ.map (·.2),false⟩ Xc F β' w'→
   ∃β2,fX w0 X (bG H ((iV σ new).map fun p=>(p.2,cD (iV σ new) (F p.1)))) β2 w'∧lF X H β w (bG H ((iV σ new).map fun p=>(p.2,cD (iV σ new) (F p.1)))) β2 w'∧
    ∀l v,R w' (Ex Xc β' F) β' F l v→R w' (Ex X β2 (bG H ((iV σ new).map fun p=>(p.2,cD (iV σ new) (F p.1))))) β2 (bG H ((iV σ new).map fun p=>(p.2,cD (iV σ new) (F p.1)))) (Eng.ren (iV σ new) 8 l) v:=by
 generalize hhc:aK (σ.map fun p=>(p.2,cD σ (H p.1)))=hc
 generalize hτ:iV σ new=τ at*
 have m1:τ.map (·.1)=σ.map (·.2)++new.map (·.1):=by rw[←hτ];simp[iV]
 have m2:τ.map (·.2)=σ.map (·.1)++new.map (·.2):=by rw[←hτ];simp[iV]
 have hσ2:(σ.map (·.2)).Nodup:=by rw[m1]at hn1;exact(List.nodup_append.1 hn1).1
 have hσ1:(σ.map (·.1)).Nodup:=by rw[m2]at hn2;exact(List.nodup_append.1 hn2).1
 have hτσ:∀p∈σ,(p.2,p.1)∈τ:=fun p hp=>by rw[←hτ];exact List.mem_append.2 (.inl (List.mem_map.2 ⟨p,hp,rfl⟩))
 have hτc:∀p∈τ,(p.2,p.1)∈σ∨p∈new:=fun p hp=>by
  rw[←hτ]at hp
  rcases List.mem_append.1 hp with hp|hp
  ·obtain⟨q,hq,rfl⟩:=List.mem_map.1 hp;exact .inl hq
  ·exact .inr hp
 have lookc:∀j,(∃p∈σ,p.2=j∧hc j=cD σ (H p.1)∧oQ σ β j=β p.1)∨(hc j=.absent∧oQ σ β j=none∧∀p∈σ,p.2≠j):=fun j=>by rw[←hhc];exact Mz σ H β j σ
 have at_c:∀p∈σ,hc p.2=cD σ (H p.1)∧oQ σ β p.2=β p.1:=fun p hp=>by
  rcases lookc p.2 with⟨q,hq,h1,h2,h3⟩|⟨_,_,h3⟩
  ·have:=qW hσ2 q p hq hp h1
   subst this;exact⟨h2,h3⟩
  ·exact absurd rfl (h3 p hp)
 let Xc:Nat→Prop:=fun k=>X k∨∃id,(∀p∈σ,p.1≠id)∧(H id).mut=true∧β id=some k
 have hXX:∀k,Xc k→Ex X β H k:=fun k hk=>by
  rcases hk with hk|⟨id,_,h2,h3⟩
  ·exact .inl hk
  ·exact .inr ⟨id,h2,h3⟩
 have hEc:∀k,Ex Xc (oQ σ β) hc k→Ex X β H k:=fun k hk=>by
  rcases hk with hk|⟨j,h1,h2⟩
  ·exact hXX k hk
  ·rcases lookc j with⟨p,hp,_,e1,e2⟩|⟨e1,_,_⟩
   ·rw[e1,uO]at h1;exact .inr ⟨p.1,h1,by rw[←e2];exact h2⟩
   ·rw[e1]at h1;cases h1
 have hHc:∀i j,dR σ i=some j→hc j=cD σ (H i)∧oQ σ β j=β i:=fun i j h=>at_c (i,j) (vO h)
 have hDc:∀x v,RD w (Ex X β H) x v→RD w (Ex Xc (oQ σ β) hc) x v:=fun x v h=>h.anti hEc
 refine⟨Xc,oQ σ β,fun k hk=>(hXX k hk).lt m,?_,hDc,fun l v h=>R.ren hDc hHc 8 l v h,?_⟩
 ·refine⟨⟨rfl,rfl,rfl,Nat.le_refl _,fun _ _ _=>rfl,Nat.le_refl _⟩,⟨fun k hk=>⟨(hXX k hk).lt m,fun hmn=>?_⟩,m.globL.anti fun k hk=>?_⟩,fun j b hl hb=>?_,fun i j b hi hj h1 h2=>?_,fun j=>?_,fun id _=>cC.refl id⟩
  ·obtain⟨j,hj,h1,h2⟩:=hmn
   obtain⟨p,hp,rfl⟩:=List.mem_map.1 hj
   obtain⟨e1,e2⟩:=at_c p hp
   have h1:(hc p.2).live=true:=h1
   have h2:oQ σ β p.2=some k:=h2
   rw[e1,kT]at h1;rw[e2]at h2
   rcases hk with hk|⟨id,g1,g2,g3⟩
   ·rcases(m.fresh p.1 k h1 h2).1 with h|h
    ·have:=(m.xold.1 k hk).1;omega
    ·exact(m.xold.1 k hk).2 h.1
   ·exact g1 p hp (m.inj p.1 id k h1 (cY g2) h2 g3)
  ·rcases hk with hk|⟨j,hj,h1,h2⟩
   ·rcases hXX k hk with h|⟨id,h1,h2⟩
    ·exact .inl h
    ·exact .inr ⟨id,cY h1,h2⟩
   ·obtain⟨p,hp,rfl⟩:=List.mem_map.1 hj
    obtain⟨e1,e2⟩:=at_c p hp
    have h1:(hc p.2).live=true:=h1
    have h2:oQ σ β p.2=some k:=h2
    rw[e1,kT]at h1;rw[e2]at h2
    exact .inr ⟨p.1,h1,h2⟩
  ·rcases lookc j with⟨p,hp,e0,e1,e2⟩|⟨e1,_,_⟩
   ·have hl':=hl
    rw[e1,kT]at hl'
    exact⟨.inr ⟨⟨j,List.mem_map.2 ⟨p,hp,e0⟩,hl,hb⟩,fun hm=>⟨j,List.mem_map.2 ⟨p,hp,e0⟩,hm,hb⟩⟩,(m.fresh p.1 b hl' (by rw[←e2];exact hb)).2⟩
   ·rw[e1]at hl;cases hl
  ·rcases lookc i with⟨p,hp,p1,e1,e2⟩|⟨e1,_,_⟩
   ·rcases lookc j with⟨q,hq,q1,f1,f2⟩|⟨f1,_,_⟩
    ·rw[e1,kT]at hi
     rw[f1,kT]at hj
     have:=m.inj p.1 q.1 b hi hj (by rw[←e2];exact h1) (by rw[←f2];exact h2)
     have:=qW hσ1 p q hp hq this
     rw[←p1,←q1,this]
    ·rw[f1]at hj;cases hj
   ·rw[e1]at hi;cases hi
  ·rcases lookc j with⟨p,hp,p1,e1,e2⟩|⟨e1,_,_⟩
   ·exact fU.ren hEc hHc e1 e2 (m.obj p.1)
   ·unfold fU;rw[e1];trivial
 ·intro F β' w' mc
  generalize hH2:bG H (τ.map fun p=>(p.2,cD τ (F p.1)))=H2
  let β2:Nat→Option Nat:=fun id=>if(τ.any fun p=>p.2==id)=true then oQ τ β' id else β id
  have look2:∀id,(∃p∈τ,p.2=id∧H2 id=cD τ (F p.1)∧β2 id=β' p.1)∨(H2 id=H id∧β2 id=β id∧∀p∈τ,p.2≠id):=fun id=>by
   rcases Ky τ F H β' id τ with⟨p,hp,h1,h2,h3⟩|⟨h1,h2⟩
   ·refine .inl ⟨p,hp,h1,by rw[←hH2];exact h2,?_⟩
    show(if(τ.any fun p=>p.2==id)=true then oQ τ β' id else β id)=_
    rw[if_pos (List.any_eq_true.2 ⟨p,hp,by simpa using h1⟩)];exact h3
   ·refine .inr ⟨by rw[←hH2];exact h1,?_,h2⟩
    show(if(τ.any fun p=>p.2==id)=true then oQ τ β' id else β id)=_
    rw[if_neg]
    intro h
    obtain⟨p,hp,h⟩:=List.any_eq_true.1 h
    exact h2 p hp (by simpa using h)
  have at2:∀p∈τ,H2 p.2=cD τ (F p.1)∧β2 p.2=β' p.1:=fun p hp=>by
   rcases look2 p.2 with⟨q,hq,h1,h2,h3⟩|⟨_,_,h3⟩
   ·have:=qW hn2 q p hq hp h1
    subst this;exact⟨h2,h3⟩
   ·exact absurd rfl (h3 p hp)
  have hHo:∀i j,dR τ i=some j→H2 j=cD τ (F i)∧β2 j=β' i:=fun i j h=>at2 (i,j) (vO h)
  have nots:∀id,(∀p∈τ,p.2≠id)→∀p∈σ,p.1≠id:=fun id h p hp=>h _ (hτσ p hp)
  have hE2:∀k,Ex X β2 H2 k→Ex Xc β' F k:=fun k hk=>by
   rcases hk with hk|⟨id,h1,h2⟩
   ·exact .inl (.inl hk)
   ·rcases look2 id with⟨p,hp,_,e1,e2⟩|⟨e1,e2,e3⟩
    ·rw[e1,uO]at h1;exact .inr ⟨p.1,h1,by rw[←e2];exact h2⟩
    ·rw[e1]at h1;rw[e2]at h2;exact .inl (.inr ⟨id,nots id e3,h1,h2⟩)
  have hD2:∀x v,RD w' (Ex Xc β' F) x v→RD w' (Ex X β2 H2) x v:=fun x v h=>h.anti hE2
  let wc:iU:=⟨w,oQ σ β,hc,σ.map (·.2),false⟩
  have mc:fX wc Xc F β' w':=mc
  have own_c:∀k,wc.own k→∃p∈σ,(H p.1).mut=true∧β p.1=some k:=fun k ⟨j,hj,h1,h2⟩=>by
   obtain⟨p,hp,rfl⟩:=List.mem_map.1 hj
   obtain⟨e1,e2⟩:=at_c p hp
   have h1:(hc p.2).mut=true:=h1
   have h2:oQ σ β p.2=some k:=h2
   rw[e1,uO]at h1;rw[e2]at h2
   exact⟨p,hp,h1,h2⟩
  have mine_c:∀k,wc.mine k→∃p∈σ,(H p.1).live=true∧β p.1=some k:=fun k ⟨j,hj,h1,h2⟩=>by
   obtain⟨p,hp,rfl⟩:=List.mem_map.1 hj
   obtain⟨e1,e2⟩:=at_c p hp
   have h1:(hc p.2).live=true:=h1
   have h2:oQ σ β p.2=some k:=h2
   rw[e1,kT]at h1;rw[e2]at h2
   exact⟨p,hp,h1,h2⟩
  have same:∀id b,(∀p∈τ,p.2≠id)→(H id).live=true→β id=some b→w'.heap[b]? =w.heap[b]? :=fun id b hid hl hb=>by
   refine mc.ext.block b (m.fresh id b hl hb).2 fun ho=>?_
   obtain⟨p,hp,h1,h2⟩:=own_c b ho
   exact nots id hid p hp (m.inj p.1 id b (cY h1) hl h2 hb)
  have g:lF X H β w H2 β2 w':=by
   refine⟨mc.ext.size,fun k hk he=>mc.ext.block k hk fun ho=>?_,fun k hk he=>?_,fun id=>?_⟩
   ·obtain⟨p,hp,h1,h2⟩:=own_c k ho
    exact he (.inr ⟨p.1,h1,h2⟩)
   ·rcases hE2 k he with h|⟨j,h1,h2⟩
    ·exact hXX k h
    ·rcases(mc.fresh j k (cY h1) h2).1 with h|h
     ·have h:w.heap.size≤k:=h
      omega
     ·obtain⟨p,hp,h3,h4⟩:=own_c k (h.2 h1)
      exact .inr ⟨p.1,h3,h4⟩
   ·rcases look2 id with⟨p,hp,hpid,e1,e2⟩|⟨e1,e2,e3⟩
    ·rcases hτc p hp with hq|hq
     ·have hpin:cC w (oQ σ β) hc w' β' F p.1:=mc.pin p.1 (List.mem_map.2 ⟨_,hq,rfl⟩)
      obtain⟨c1,c2⟩:=at_c _ hq
      simp only at c1 c2
      rw[hpid]at c1 c2
      exact Ij hpin c1 c2 e1 e2
     ·unfold cC;rw[←hpid,hnew p hq];trivial
    ·have hp:=cC.refl (w:=w) (β:=β) (H:=H) id
     unfold cC at*
     rw[e1,e2]
     cases q:H id with
     |absent=>trivial
     |dead=>rfl
     |box fz cs=>simpa only[q]using hp
     |row fz s xs=>exact .inr ⟨⟨fz,xs,rfl,Nat.le_refl _⟩,rfl,fun b cur t hbb hblk=>⟨cur,t,by rw[same id b e3 (by rw[q];rfl) hbb];exact hblk,rfl⟩⟩
     |map fz ks vs=>simpa only[q]using hp
     |iter fz ks vs=>simpa only[q]using hp
     |know x v=>trivial
  refine⟨β2,⟨⟨mc.ext.os.trans m.ext.os,mc.ext.tape.trans m.ext.tape,mc.ext.output.trans m.ext.output,Nat.le_trans m.ext.size mc.ext.size,fun k hk hno=>?_,Nat.le_trans m.ext.drawn mc.ext.drawn⟩,m.xold,fun id b hl hb=>?_,fun i j b hi hj h1 h2=>?_,fun id=>?_,fun id hid=>(m.pin id hid).trans (g.pass id)⟩,g,fun l v h=>R.ren hD2 hHo 8 l v h⟩
  ·refine(mc.ext.block k (Nat.lt_of_lt_of_le hk m.ext.size) fun ho=>?_).trans (m.ext.block k hk hno)
   obtain⟨p,hp,h1,h2⟩:=own_c k ho
   rcases(m.fresh p.1 k (cY h1) h2).1 with h|h
   ·omega
   ·exact hno (h.2 h1)
  ·rcases look2 id with⟨p,hp,hpid,e1,e2⟩|⟨e1,e2,e3⟩
   ·rw[e1,kT]at hl
    rw[e2]at hb
    have hf:=mc.fresh p.1 b hl hb
    refine⟨?_,hf.2⟩
    by_cases hsz:w0.w.heap.size≤b
    ·exact .inl hsz
    ·right
     rcases hf.1 with h|⟨h3,h4⟩
     ·exact absurd (Nat.le_trans m.ext.size h) hsz
     ·obtain⟨q,_,q1,q2⟩:=mine_c b h3
      refine⟨((m.fresh q.1 b q1 q2).1.resolve_left hsz).1,fun hm=>?_⟩
      rw[e1,uO]at hm
      obtain⟨r,_,r1,r2⟩:=own_c b (h4 hm)
      exact((m.fresh r.1 b (cY r1) r2).1.resolve_left hsz).2 r1
   ·rw[e1]at hl⊢
    rw[e2]at hb
    have hf:=m.fresh id b hl hb
    exact⟨hf.1,Nat.lt_of_lt_of_le hf.2 mc.ext.size⟩
  ·have cross:∀p∈τ,∀j,(∀p∈τ,p.2≠j)→(F p.1).live=true→β' p.1=some b→(H j).live=true→β j=some b→False:=fun p hp j hj h1 h2 h3 h4=>by
    rcases(mc.fresh p.1 b h1 h2).1 with h|h
    ·have h:w.heap.size≤b:=h
     have:=(m.fresh j b h3 h4).2
     omega
    ·obtain⟨q,hq,q1,q2⟩:=mine_c b h.1
     exact nots j hj q hq (m.inj q.1 j b q1 h3 q2 h4)
   rcases look2 i with⟨p,hp,p0,e1,e2⟩|⟨e1,e2,e3⟩
   ·rw[e1,kT]at hi
    rw[e2]at h1
    rcases look2 j with⟨q,hq,q0,f1,f2⟩|⟨f1,f2,f3⟩
    ·rw[f1,kT]at hj
     rw[f2]at h2
     have:=qW hn1 p q hp hq (mc.inj p.1 q.1 b hi hj h1 h2)
     rw[←p0,←q0,this]
    ·rw[f1]at hj;rw[f2]at h2
     exact(cross p hp j f3 hi h1 hj h2).elim
   ·rw[e1]at hi;rw[e2]at h1
    rcases look2 j with⟨q,hq,q0,f1,f2⟩|⟨f1,f2,f3⟩
    ·rw[f1,kT]at hj
     rw[f2]at h2
     exact(cross q hq i e3 hj h2 hi h1).elim
    ·rw[f1]at hj;rw[f2]at h2
     exact m.inj i j b hi hj h1 h2
  ·rcases look2 id with⟨p,hp,p0,e1,e2⟩|⟨e1,e2,e3⟩
   ·exact fU.ren hE2 hHo e1 e2 (mc.obj p.1)
   ·exact(m.obj id).step g.size g.out (fun _ _=>g.D) (fun _ _=>g.R) e1 (fun _=>e2) fun b hl hb=>same id b e3 hl hb
end
end Go.Eng
namespace Go.Eng
open Go.RowKit
def dT:List (Nat×aX)→Nat→Option aX
 |[],_=>none
 |p::r,j=>if j=p.1 then some p.2 else dT r j
def qB(l:List (Nat×aX))(B β:Nat→Option Nat)(id:Nat):Option Nat:=if(dT l id).isSome then B id else β id
section
variable{P:Program} {T:TypeId→lA} {w0:iU} {X:Nat→Prop} {H:Nat→aX} {β:Nat→Option Nat} {w w':World} {a:Act} {o:Oper} {g:Operand→LV} {E:Nat→Prop}
theorem jJ(l:List (Nat×aX))(j:Nat):bG H l j=(dT l j).getD (H j):=by
 induction l with
 |nil=>rfl
 |cons p r ih=>
  simp only[bG,dT]
  split
  ·rfl
  ·exact ih
theorem fX.newMany(m:fX w0 X H β w)(hb:En w.heap.size w w')(l:List (Nat×aX))(B:Nat→Option Nat)(hd:∀id o,dT l id=some o→H id=.absent)
 (hB:∀id o b,dT l id=some o→B id=some b→w.heap.size≤b∧b<w'.heap.size)(hinj:∀i j b,B i=some b→B j=some b→i=j)
 (ho:(∀x v,RD w (Ex X β H) x v→RD w' (Ex X (qB l B β) (bG H l)) x v)→∀id o,dT l id=some o→fU w' (Ex X (qB l B β) (bG H l)) (qB l B β) (bG H l) id):
 fX w0 X (bG H l) (qB l B β) w'∧lF X H β w (bG H l) (qB l B β) w':=by
 have old:∀id,dT l id=none→bG H l id=H id∧qB l B β id=β id:=fun id h=>by rw[jJ,h];exact⟨rfl,by simp[qB,h]⟩
 have new:∀id o,dT l id=some o→bG H l id=o∧qB l B β id=B id:=fun id o h=>by rw[jJ,h];exact⟨rfl,by simp[qB,h]⟩
 have hg:lF X H β w (bG H l) (qB l B β) w':=by
  refine⟨hb.size,fun k hk _=>hb.block k hk,fun k hk he=>?_,fun id=>?_⟩
  ·rcases he with he|⟨id,h1,h2⟩
   ·exact .inl he
   ·cases q:dT l id with
    |some o=>rw[(new id o q).2]at h2;have:=(hB id o k q h2).1;omega
    |none=>rw[(old id q).1]at h1;rw[(old id q).2]at h2;exact .inr ⟨id,h1,h2⟩
  ·cases q:dT l id with
   |some o=>unfold cC;rw[hd id o q];trivial
   |none=>
    have hp:=(m.grow hb).2.pass id
    unfold cC at*
    rw[(old id q).1]
    rw[(old id q).2]
    exact hp
 refine⟨⟨m.ext.of_below hb,m.xold,fun id b hl hbb=>?_,fun i j b hi hj h1 h2=>?_,fun id=>?_,fun id hid=>(m.pin id hid).trans (hg.pass id)⟩,hg⟩
 ·cases q:dT l id with
  |some o=>rw[(new id o q).2]at hbb;have h1:=hB id o b q hbb;exact⟨.inl (Nat.le_trans m.ext.size h1.1),h1.2⟩
  |none=>rw[(old id q).1]at hl⊢;rw[(old id q).2]at hbb;have:=m.fresh id b hl hbb;exact⟨this.1,Nat.lt_of_lt_of_le this.2 hb.size⟩
 ·cases qi:dT l i with
  |some oi=>
   rw[(new i oi qi).2]at h1
   cases qj:dT l j with
   |some oj=>rw[(new j oj qj).2]at h2;exact hinj i j b h1 h2
   |none=>rw[(old j qj).1]at hj;rw[(old j qj).2]at h2;have:=hB i oi b qi h1;have:=(m.fresh j b hj h2).2;omega
  |none=>
   rw[(old i qi).1]at hi;rw[(old i qi).2]at h1
   cases qj:dT l j with
   |some oj=>rw[(new j oj qj).2]at h2;have:=hB j oj b qj h2;have:=(m.fresh i b hi h1).2;omega
   |none=>rw[(old j qj).1]at hj;rw[(old j qj).2]at h2;exact m.inj i j b hi hj h1 h2
 ·cases q:dT l id with
  |some o=>exact ho (fun _ _=>hg.D) id o q
  |none=>exact(m.obj id).step hg.size hg.out (fun _ _=>hg.D) (fun _ _=>hg.R) (old id q).1 (fun _=>(old id q).2) fun b hl hbb=>hb.block b (m.fresh id b hl hbb).2
theorem tU:∀(rs:List RV) (d id:Nat) (o:aX),dT (bS d rs) id=some o→∃i s xs,rs[i]? =some (.own s xs)∧id=d+1000*i∧o=.row false s xs
 |[],d,id,o,h=>by simp[bS,dT]at h
 |r::rs,d,id,o,h=>by
  have next:dT (bS (d+1000) rs) id=some o→∃i s xs,(r::rs)[i]? =some (.own s xs)∧id=d+1000*i∧o=.row false s xs:=fun h=>by
   obtain⟨i,s,xs,h1,h2,h3⟩:=tU rs (d+1000) id o h
   exact⟨i+1,s,xs,by simpa using h1,by omega,h3⟩
  cases r with
  |own s xs=>
   simp only[bS,iF,List.cons_append,List.nil_append,dT]at h
   split at h
   ·rename_i e
    injection h with h
    exact⟨0,s,xs,rfl,by simpa using e,h.symm⟩
   ·exact next h
  |d x=>simp only[bS,iF,List.nil_append]at h;exact next h
  |tup x=>simp only[bS,iF,List.nil_append]at h;exact next h
theorem wS:∀(rs:List RV) (d i s:Nat) (xs:List DV),rs[i]? =some (.own s xs)→dT (bS d rs) (d+1000*i)=some (.row false s xs)
 |[],d,i,s,xs,h=>by simp at h
 |r::rs,d,i,s,xs,h=>by
  have next:∀j,i=j+1→dT (bS (d+1000) rs) (d+1000*i)=some (.row false s xs):=fun j e=>by
   subst e
   have:=wS rs (d+1000) j s xs (by simpa using h)
   rw[←this];congr 1;omega
  cases i with
  |zero=>simp at h;subst h;simp[bS,iF,dT]
  |succ j=>
   cases r with
   |own s' xs'=>simp only[bS,iF,List.cons_append,List.nil_append,dT];rw[if_neg (by omega)];exact next j rfl
   |d x=>simp only[bS,iF,List.nil_append];exact next j rfl
   |tup x=>simp only[bS,iF,List.nil_append];exact next j rfl
theorem CR:∀(rs:List RV) (d i:Nat) (l:LV),(iZ d rs)[i]? =some l→∃r,rs[i]? =some r∧l=oP (d+1000*i) r
 |[],_,_,_,h=>by simp[iZ]at h
 |r::rs,d,0,l,h=>by simp[iZ]at h;exact⟨r,rfl,by simp[h]⟩
 |r::rs,d,i+1,l,h=>by
  simp only[iZ,List.getElem?_cons_succ]at h
  obtain⟨r',h1,h2⟩:=CR rs (d+1000) i l h
  exact⟨r',by simpa using h1,by rw[h2];congr 1;omega⟩
theorem CS:∀(rs:List RV) (d:Nat),(iZ d rs).length=rs.length
 |[],_=>rfl
 |_::rs,d=>by simp[iZ,CS rs]
theorem FC(m:fX w0 X H β w)(hb:En w.heap.size w w')(d:Nat)(rs:List RV)(vs:List Value)(B:Nat→Option Nat)(hinj:∀i j b,B i=some b→B j=some b→i=j)(hE:∀k,Ex X β H k→E k)
 (habs:∀p∈bS d rs,H p.1=.absent)(h:∀(i:Nat) (r:RV) (v:Value),rs[i]? =some r→vs[i]? =some v→AU w w' (fun k=>E k∨∃j,B j=some k) (B i) r v)(hl:vs.length=rs.length):
 ∃β',fX w0 X (bG H (bS d rs)) β' w'∧lF X H β w (bG H (bS d rs)) β' w'∧
  ∀(i:Nat) (l:LV) (v:Value),(iZ d rs)[i]? =some l→vs[i]? =some v→R w' (Ex X β' (bG H (bS d rs))) β' (bG H (bS d rs)) l v:=by
 have habs':∀id o,dT (bS d rs) id=some o→H id=.absent:=by
  have:∀(l:List (Nat×aX)) id o,dT l id=some o→(id,o)∈l:=by
   intro l
   induction l with
   |nil=>intro id o h;simp[dT]at h
   |cons p r ih=>
    intro id o h
    simp only[dT]at h
    split at h
    ·rename_i e;injection h with h;subst h;subst e;simp
    ·exact List.mem_cons_of_mem _ (ih id o h)
  exact fun id o h=>habs _ (this _ id o h)
 let B':Nat→Option Nat:=fun id=>if(id-d)%1000=0∧d≤id then B ((id-d) / 1000)else none
 have hB':∀i,B' (d+1000*i)=B i:=fun i=>by
  show(if(d+1000*i-d)%1000=0∧d≤d+1000*i then B ((d+1000*i-d) / 1000)else none)=B i
  rw[if_pos ⟨by omega,by omega⟩];congr 1;omega
 have hBinj:∀i j b,B' i=some b→B' j=some b→i=j:=fun i j b h1 h2=>by
  simp only[B']at h1 h2
  split at h1
  ·split at h2
   ·rename_i q1 q2
    have:=hinj _ _ b h1 h2
    omega
   ·cases h2
  ·cases h1
 have hown:∀i s xs,rs[i]? =some (.own s xs)→∃v,vs[i]? =some v∧AU w w' (fun k=>E k∨∃j,B j=some k) (B i) (.own s xs) v:=fun i s xs hr=>by
  have hi:i<vs.length:=by have:=(List.getElem?_eq_some_iff.1 hr).1;omega
  exact⟨vs[i],List.getElem?_eq_getElem hi,h i _ _ hr (List.getElem?_eq_getElem hi)⟩
 have hsub:∀k,Ex X (qB (bS d rs) B' β) (bG H (bS d rs)) k→E k∨∃j,B j=some k:=fun k hk=>by
  rcases hk with hk|⟨id,h1,h2⟩
  ·exact .inl (hE k (.inl hk))
  ·cases q:dT (bS d rs) id with
   |some o=>
    simp only[qB,q,Option.isSome_some,if_true]at h2
    obtain⟨i,s,xs,_,e,_⟩:=tU rs d id o q
    subst e
    rw[hB']at h2
    exact .inr ⟨i,h2⟩
   |none=>
    rw[jJ,q]at h1
    simp only[qB,q]at h2
    exact .inl (hE k (.inr ⟨id,h1,by simpa using h2⟩))
 obtain⟨m',g'⟩:=m.newMany hb (bS d rs) B' habs' (fun id o b hq hbb=>by
  obtain⟨i,s,xs,hr,e,_⟩:=tU rs d id o hq
  subst e
  rw[hB']at hbb
  obtain⟨v,_,_,_,hv⟩:=hown i s xs hr
  rcases hv with⟨hn,_⟩|⟨b',c,cur,e,h1,_,h2,h3,_⟩
  ·rw[hn]at hbb;cases hbb
  ·rw[h1]at hbb;injection hbb with hbb;subst hbb
   exact⟨h2,(Array.getElem?_eq_some_iff.1 h3).1⟩) hBinj (fun _ id o hq=>by
  obtain⟨i,s,xs,hr,e,e2⟩:=tU rs d id o hq
  subst e;subst e2
  obtain⟨v,_,hpos,hall,hv⟩:=hown i s xs hr
  unfold fU
  rw[jJ,hq]
  simp only[Option.getD_some]
  refine⟨hpos,hall,?_⟩
  rcases hv with⟨hn,he,_⟩|⟨b',c,cur,e,h1,_,h2,h3,h4,h5,h6,h7⟩
  ·exact .inl ⟨by simpa [qB,hq,hB']using hn,he⟩
  ·exact .inr ⟨b',e,cur,by simpa [qB,hq,hB']using h1,h3,Nat.le_trans (Nat.mul_le_mul_right _ h4) (Nat.le_of_eq h6),fun k dd u hd hu=>⟨(h7 k dd u hd hu).1,(h7 k dd u hd hu).2.anti hsub⟩⟩)
 refine⟨_,m',g',fun i l v hlv hv=>?_⟩
 obtain⟨r,hr,rfl⟩:=CR rs d i l hlv
 have hrv:=h i r v hr hv
 cases r with
 |d x=>exact .d _ _ (RD.anti hsub hrv)
 |tup x=>exact hrv.elim
 |own s xs=>
  have hq:=wS rs d i s xs hr
  obtain⟨hpos,hall,hvv⟩:=hrv
  have hHq:bG H (bS d rs) (d+1000*i)=.row false s xs:=by rw[jJ,hq];rfl
  rcases hvv with⟨hn,he,b,rfl⟩|⟨b',c,cur,e,h1,rfl,h2,h3,h4,h5,h6,h7⟩
  ·subst he;exact .ow0 _ _ _ false s [] hHq (.inl ⟨by simpa [qB,hq,hB']using hn,rfl⟩)
  ·have hR:=R.ow (w:=w') (E:=Ex X (qB (bS d rs) B' β) (bG H (bS d rs))) (β:=qB (bS d rs) B' β) (H:=bG H (bS d rs))
    (d+1000*i) 0 xs.length b' c false s xs cur e hHq (by simpa [qB,hq,hB']using h1) (by omega) h4 h5 h3 (by rw[Nat.zero_add];exact h6)
   rw[Nat.zero_mul]at hR
   exact hR
theorem Ik{lf:LV}{vf:Value}{f:FuncId}{caps:List LV}(h:bV lf=some (f,caps))(hr:R w E β H lf vf):
 ∃fs vs:List Value,vf=.func (.func f) fs.toArray vs.toArray∧fs.length=(bZ lf).length∧(∀(i:Nat) (c:LV) (v:Value),(bZ lf)[i]? =some c→fs[i]? =some v→R w E β H c v)∧
  vs.length=caps.length∧∀(i:Nat) (c:LV) (v:Value),caps[i]? =some c→vs[i]? =some v→R w E β H c v:=by
 unfold bV at h
 split at h
 ·injection h with h;injection h with h1 h2;subst h1;subst h2
  cases hr with
  |d _ _ hr=>cases hr with
   |fn _ cs vs hl hp=>
    refine⟨[],vs,rfl,rfl,by simp[bZ],by simpa using hl,fun i c v hc hv=>?_⟩
    obtain⟨x,hx,rfl⟩:=lP hc
    exact .d _ _ (hp i x v hx hv)
 ·injection h with h;injection h with h1 h2;subst h1;subst h2
  cases hr with
  |fn _ cs vs hl hp=>exact⟨[],vs,rfl,rfl,by simp[bZ],hl,hp⟩
 ·injection h with h;injection h with h1 h2;subst h1;subst h2
  cases hr with
  |d _ _ hr=>cases hr with
   |bm _ cs vs hl hp=>
    refine⟨vs,[],rfl,by simpa [bZ]using hl,fun i c v hc hv=>?_,rfl,by simp⟩
    obtain⟨x,hx,rfl⟩:=lP hc
    exact .d _ _ (hp i x v hx hv)
 ·injection h with h;injection h with h1 h2;subst h1;subst h2
  cases hr with
  |bm _ cs vs hl hp=>exact⟨vs,[],rfl,hl,hp,rfl,by simp⟩
 ·cases h
theorem CT(hg:∀x,R w (Ex X β H) β H (g x) (a.eval x)){f:Operand}{args:Array Operand}{ts:Array TypeId}(ho:o.op=.call {callee:=.value f,args:=args,argTypes:=ts}){fid:FuncId}{caps:List LV}(hc:bV (g f)=some (fid,caps))(hcl:wQ P fid):
 ∃vals:List Value,(execOp a.eval o).run P w=.ok (.enter fid vals.toArray) w∧vals.length=(bZ (g f)++args.toList.map g++caps).length∧
  ∀(i:Nat) (c:LV) (v:Value),(bZ (g f)++args.toList.map g++caps)[i]? =some c→vals[i]? =some v→R w (Ex X β H) β H c v:=by
 obtain⟨fn,hfn,hname,hbody⟩:=hcl
 obtain⟨fvs,cvs,hcv,hfl,hfp,hcl,hcp⟩:=Ik hc (hg f)
 have app:∀(xs ys:List LV) (us vs:List Value),us.length=xs.length→(∀(i:Nat) (c:LV) (v:Value),xs[i]? =some c→us[i]? =some v→R w (Ex X β H) β H c v)→(∀(i:Nat) (c:LV) (v:Value),ys[i]? =some c→vs[i]? =some v→R w (Ex X β H) β H c v)→
  ∀(i:Nat) (c:LV) (v:Value),(xs++ys)[i]? =some c→(us++vs)[i]? =some v→R w (Ex X β H) β H c v:=by
  intro xs ys us vs hl h1 h2 i c v hc hv
  by_cases hi:i<xs.length
  ·rw[List.getElem?_append_left hi]at hc
   rw[List.getElem?_append_left (by omega)]at hv
   exact h1 i c v hc hv
  ·rw[List.getElem?_append_right (by omega)]at hc hv
   rw[hl]at hv
   exact h2 _ c v hc hv
 refine⟨fvs++args.toList.map a.eval++cvs,?_,by simp[hfl,hcl],app _ _ _ _ (by simp[hfl]) (app _ _ _ _ hfl hfp fun i c v hc hv=>?_) hcp⟩
 ·have e1:(fvs.toArray++args.map a.eval++cvs.toArray)=(fvs++args.toList.map a.eval++cvs).toArray:=by
   apply Array.ext'
   simp
  simp only[execOp,ho,resolve,hcv,Deferred.ofValue,Sem.run_bind,Sem.run_pure,Result.andThen_ok,invoke,callFunc,run_program,hfn,hname,Bool.false_eq_true,if_false]
  have hb:fn.body.isNone=false:=by cases q:fn.body<;>simp_all
  simp only[hb,Bool.false_eq_true,if_false,Sem.run_pure]
  rw[←e1]
 ·obtain⟨x,hx,rfl⟩:=lP hc
  obtain⟨y,hy,rfl⟩:=lP hv
  rw[hx]at hy;injection hy with hy;subst hy
  exact hg x
theorem CU{σ:List (Nat×Nat)}{shut:List Nat}:∀(ls:List LV) (i:Nat) (as:List LV),jE H σ shut i ls=some as→as.length=ls.length∧
 ∀(j:Nat) (l c:LV),ls[j]? =some l→as[j]? =some c→(∃x,close H 8 l=some x∧c=.d x∧∀id∈bL H 8 l,id∈jF H shut i ls)∨c=ren σ 8 l
 |[],i,as,h=>by simp[jE]at h;subst h;simp
 |l::r,i,as,h=>by
  simp only[jE]at h
  cases q:jE H σ shut (i+1) r with
  |none=>rw[q]at h;cases h
  |some r'=>
   rw[q]at h
   obtain⟨h1,h2⟩:=CU r (i+1) r' q
   simp only at h
   have next:∀(j:Nat) (l' c:LV),r[j]? =some l'→r'[j]? =some c→(∃x,close H 8 l'=some x∧c=.d x∧∀id∈bL H 8 l',id∈jF H shut i (l::r))∨c=ren σ 8 l':=fun j l' c hl hc=>by
    rcases h2 j l' c hl hc with⟨x,g1,g2,g3⟩|g
    ·exact .inl ⟨x,g1,g2,fun id hid=>List.mem_append.2 (.inr (g3 id hid))⟩
    ·exact .inr g
   by_cases hs:shut.contains i=true
   ·rw[if_pos hs,Option.map_eq_some_iff]at h
    obtain⟨x,hx,rfl⟩:=h
    refine⟨by simp[h1],fun j l' c hl hc=>?_⟩
    cases j with
    |zero=>
     simp at hl hc;subst hl;subst hc
     exact .inl ⟨x,hx,rfl,fun id hid=>List.mem_append.2 (.inl (by rw[if_pos hs];exact hid))⟩
    |succ j=>exact next j l' c (by simpa using hl) (by simpa using hc)
   ·rw[if_neg hs]at h
    injection h with h;subst h
    refine⟨by simp[h1],fun j l' c hl hc=>?_⟩
    cases j with
    |zero=>simp at hl hc;subst hl;subst hc;exact .inr rfl
    |succ j=>exact next j l' c (by simpa using hl) (by simpa using hc)
theorem BL(l l2:List (Nat×aX)):bG H (l++l2)=bG (bG H l2) l:=by
 funext j
 induction l with
 |nil=>rfl
 |cons p q ih=>simp only[List.cons_append,bG];rw[ih]
theorem Eu(m:fX w0 X H β w)(hg:∀x,R w (Ex X β H) β H (g x) (a.eval x)){f:Operand}{args:Array Operand}{ts:Array TypeId}{σ new:List (Nat×Nat)}{shut:List Nat}(ho:o.op=.call {callee:=.value f,args:=args,argTypes:=ts}){fid:FuncId}{caps as:List LV}
 (hc:bV (g f)=some (fid,caps))(has:jE H σ shut 0 (bZ (g f)++args.toList.map g++caps)=some as){Rel:List (Nat×aX)→LV→Prop}(hcall:Mo P fid as (σ.map fun p=>(p.2,cD σ (H p.1))) Rel)
 (hn1:((iV σ new).map (·.1)).Nodup)(hn2:((iV σ new).map (·.2)).Nodup)(hnew:∀p∈new,H p.2=.absent)(hids:∀id∈jF H shut 0 (bZ (g f)++args.toList.map g++caps),id∉σ.map (·.1)){c:Prop}:
 Mj P w0 X H β w a o (fun res=>∃fin ret,Rel fin ret∧res=⟨ren (iV σ new) 8 ret,c,((iV σ new).map fun p=>(p.2,cD (iV σ new) (aK fin p.1)))++aP H (jF H shut 0 (bZ (g f)++args.toList.map g++caps))⟩):=by
 obtain⟨vals,hrun,hvl,hvp⟩:=CT hg ho hc hcall.1
 generalize hids0:jF H shut 0 (bZ (g f)++args.toList.map g++caps)=ids at*
 obtain⟨m1,g1⟩:=m.freeze ids
 have hsame:(σ.map fun p=>(p.2,cD σ (H p.1)))=σ.map fun p=>(p.2,cD σ (bG H (aP H ids) p.1)):=List.map_congr_left fun p hp=>by
  rw[jG,if_neg fun h=>hids p.1 h (List.mem_map.2 ⟨p,hp,rfl⟩)]
 rw[hsame]at hcall
 obtain⟨Xc,βc,hXc,mc,hD,hR,hback⟩:=m1.callG σ new hn1 hn2 fun p hp=>by
  rw[jG,hnew p hp];simp[frozen]
 obtain⟨hal,hap⟩:=CU _ _ _ has
 have hpins:(σ.map fun p=>(p.2,cD σ (bG H (aP H ids) p.1))).map (·.1)=σ.map (·.2):=by simp
 have hcc:=hcall.2 w Xc βc vals
 rw[hpins]at hcc
 intro K Q hK
 unfold Oper.wp
 rw[hrun]
 simp only[Oper.upon]
 refine(hcc mc (by omega) fun i c v hci hv=>?_).mono ?_
 ·have hi:i<(bZ (g f)++args.toList.map g++caps).length:=by have:=(List.getElem?_eq_some_iff.1 hci).1;omega
  have hli:=List.getElem?_eq_getElem hi
  rcases hap i _ c hli hci with⟨x,h1,rfl,h3⟩|h1
  ·exact .d _ _ (hD _ _ (lN m (ids:=ids) h1 (fun id hid=>by rw[←hids0];exact h3 id hid) (hvp i _ v hli hv)))
  ·rw[h1];exact hR _ _ (g1.R (hvp i _ v hli hv))
 ·rintro e w' ⟨v,β',fin,ret,hrel,rfl,m',hret⟩
  obtain⟨β2,m2,g2,h2⟩:=hback (aK fin) β' w' m'
  refine hK _ ⟨fin,ret,hrel,rfl⟩ v w' β2 ?_ ?_ ?_<;>simp only[]<;>rw[BL]
  ·exact m2
  ·exact g1.trans g2
  ·exact h2 _ _ hret
theorem MA(m:fX w0 X H β w)(hg:∀x,R w (Ex X β H) β H (g x) (a.eval x)){f:Operand}{args:Array Operand}{ts:Array TypeId}{gn:RT}(ho:o.op=.call {callee:=.value f,args:=args,argTypes:=ts}){fid:FuncId}{caps as:List LV}
 (hc:bV (g f)=some (fid,caps))(has:jE H gn.σ gn.shut 0 (bZ (g f)++args.toList.map g++caps)=some as)(hcall:qR P fid as (gn.σ.map fun p=>(p.2,cD gn.σ (H p.1))) gn.fin gn.ret)
 (hn1:((iV gn.σ gn.new).map (·.1)).Nodup)(hn2:((iV gn.σ gn.new).map (·.2)).Nodup)(hnew:∀p∈gn.new,H p.2=.absent)(hids:∀id∈jF H gn.shut 0 (bZ (g f)++args.toList.map g++caps),id∉gn.σ.map (·.1)){c:Prop}:
 pP P w0 X H β w a o ⟨ren (iV gn.σ gn.new) 8 gn.ret,c,((iV gn.σ gn.new).map fun p=>(p.2,cD (iV gn.σ gn.new) (aK gn.fin p.1)))++aP H (jF H gn.shut 0 (bZ (g f)++args.toList.map g++caps))⟩:=
 (Eu m hg ho hc has hcall.toR hn1 hn2 hnew hids (c:=c)).toS fun r' ⟨fin,ret,⟨e1,e2⟩,e⟩=>by subst e1;subst e2;subst e;exact⟨rfl,rfl⟩
theorem Gw(m:fX w0 X H β w)(hg:∀x,R w (Ex X β H) β H (g x) (a.eval x)){f:Operand}{args:Array Operand}{ts:Array TypeId}{dst:Nat}(ho:o.op=.call {callee:=.value f,args:=args,argTypes:=ts})
 {fid:FuncId}{caps:List LV}(hc:bV (g f)=some (fid,caps)){as:List DV}(has:bX ((bZ (g f)++args.toList.map g++caps).map (close H 8))=some as){fr:Bool}{Rel:Mn→Prop}(hcall:Qg P fid as Rel)
 (hfr:∀r,Rel r→r.fresh=fr)(habs:∀r,Rel r→∀p∈eT dst r.v,H p.1=.absent){c:Prop}:
 Mj P w0 X H β w a o (fun res=>∃r,Rel r∧res=⟨nK dst r.v,c,eT dst r.v++(if fr then []else aP H ((bZ (g f)++args.toList.map g++caps).flatMap (bL H 8)))⟩):=by
 obtain⟨vals,hrun,hvl,hvp⟩:=CT hg ho hc hcall.1
 have hcall:=hcall.2
 let lvs:=bZ (g f)++args.toList.map g++caps
 obtain⟨hal,hap⟩:=pJ has
 have hal':as.length=lvs.length:=hal
 let ids:=lvs.flatMap (bL H 8)
 let H1:=if fr then H else bG H (aP H ids)
 have hH1:fX w0 X H1 β w∧lF X H β w H1 β w:=by
  show fX w0 X (if fr then H else bG H (aP H ids)) β w∧lF X H β w (if fr then H else bG H (aP H ids)) β w
  cases fr
  ·exact m.freeze ids
  ·exact⟨m,lF.refl⟩
 obtain⟨m1,g1⟩:=hH1
 let Xc:Nat→Prop:=fun k=>fr=false∧Ex X β H1 k
 have hargs:Qm w Xc as vals:=by
  refine⟨by omega,fun i c v hc hv=>?_⟩
  have hi:i<lvs.length:=by have:=(List.getElem?_eq_some_iff.1 hc).1;omega
  have hli:=List.getElem?_eq_getElem hi
  have hcl:=hap i _ c hli hc
  cases hf:fr with
  |true=>
   refine tS m.obj (fun x v h=>h.anti (fun k hk=>?_)) 8 _ c v hcl (fun id _ b _ he=>?_) (hvp i _ v hli hv)
   ·have:=hk.1;rw[hf]at this;cases this
   ·have:=he.1;rw[hf]at this;cases this
  |false=>
   have hH:H1=bG H (aP H ids):=by show(if fr then H else _)=_;rw[hf];rfl
   refine RD.anti (fun k hk=>?_) (lN m (ids:=ids) hcl (fun id hid=>List.mem_flatMap.2 ⟨_,List.getElem_mem hi,hid⟩) (hvp i _ v hli hv))
   have:=hk.2
   rw[hH]at this;exact this
 intro K Q hK
 unfold Oper.wp
 rw[hrun]
 simp only[Oper.upon]
 refine(hcall w Xc vals ⟨fun k hk=>hk.2.lt m1,m1.glob.anti fun k hk=>hk.2⟩ hargs).mono ?_
 rintro e w' ⟨v,r,hrel,rfl,hbel,hret⟩
 have hfre:=hfr r hrel
 have habs:=habs r hrel
 rw[hfre]at hret
 have hE:∀k,Ex X β H1 k→Xc k∨fr=true∧k<w.heap.size:=fun k hk=>by
  cases hf:fr with
  |true=>exact .inr ⟨rfl,hk.lt m1⟩
  |false=>exact .inl ⟨hf,hk⟩
 have habs1:∀p∈eT dst r.v,H1 p.1=.absent:=fun p hp=>by
  have:=habs p hp
  show(if fr then H else bG H (aP H ids)) p.1=.absent
  cases fr
  ·simp only[Bool.false_eq_true,if_false];rw[jG,this];simp[frozen]
  ·exact this
 have hups:bG H (eT dst r.v++(if fr then []else aP H ids))=bG H1 (eT dst r.v):=by
  have key:∀(l:List (Nat×aX)) (l2:List (Nat×aX)),bG H (l++l2)=bG (bG H l2) l:=by
   intro l l2
   funext j
   induction l with
   |nil=>rfl
   |cons p q ih=>simp only[List.cons_append,bG];rw[ih]
  rw[key]
  show bG (bG H (if fr then []else aP H ids)) _=bG (if fr then H else bG H (aP H ids)) _
  cases fr<;>rfl
 have fin:∀(rs:List RV) (vs:List Value) (B:Nat→Option Nat),eT dst r.v=bS dst rs→(∀i j b,B i=some b→B j=some b→i=j)→vs.length=rs.length→
  (∀(i:Nat) (q:RV) (v:Value),rs[i]? =some q→vs[i]? =some v→AU w w' (fun k=>(Xc k∨fr=true∧k<w.heap.size)∨∃j,B j=some k) (B i) q v)→
  ((∀H' β',(∀(i:Nat) (l:LV) (v:Value),(iZ dst rs)[i]? =some l→vs[i]? =some v→R w' (Ex X β' H') β' H' l v)→R w' (Ex X β' H') β' H' (nK dst r.v) v))→K (a.put o.dst v) w':=by
  intro rs vs B e1 e2 e3 e4 e5
  obtain⟨β',m2,g2,hR⟩:=FC m1 hbel dst rs vs B e2 hE (by rw[←e1];exact habs1) e4 e3
  refine hK _ ⟨r,hrel,rfl⟩ v w' β' ?_ ?_ ?_<;>simp only[]<;>rw[hups,e1]
  ·exact m2
  ·exact g1.trans g2
  ·exact e5 _ _ hR
 unfold Gn at hret
 split at hret
 ·rename_i rs hrs
  obtain⟨vs,B,rfl,h1,h2,h3⟩:=hret
  exact fin rs vs B (by rw[hrs];rfl) h2 h1 h3 (fun H' β' hp=>by
   rw[hrs]
   exact .tup _ vs (by rw[CS];exact h1) hp)
 ·rename_i hnt
  obtain⟨B,hB⟩:=hret
  refine fin [r.v] [v] (fun i=>if i=0 then B else none) ?_ ?_ rfl ?_ ?_
  ·cases q:r.v<;>simp[eT,bS]
   exact absurd q (hnt _)
  ·intro i j b h1 h2
   split at h1
   ·split at h2
    ·omega
    ·cases h2
   ·cases h1
  ·intro i q v' hq hv'
   cases i with
   |zero=>
    simp at hq hv'
    subst hq;subst hv'
    have hsame:∀k,(∃j:Nat,(if j=0 then B else none)=some k)↔B=some k:=by
     intro k
     constructor
     ·rintro⟨j,hj⟩
      split at hj
      ·exact hj
      ·cases hj
     ·intro h
      exact⟨0,by simpa using h⟩
    simp only[hsame,if_true]
    exact hB
   |succ i=>simp at hq
  ·intro H' β' hp
   have:=hp 0 (oP dst r.v) v rfl rfl
   cases q:r.v<;>rw[q]at this<;>first|exact this|exact absurd q (hnt _)
theorem OV(m:fX w0 X H β w)(hg:∀x,R w (Ex X β H) β H (g x) (a.eval x)){f:Operand}{args:Array Operand}{ts:Array TypeId}{r:Option sH}{dst:Nat}(ho:o.op=.call {callee:=.value f,args:=args,argTypes:=ts})(hself:Ab r r)
 (hok:∀r',Ab r r'→(bP P H r' dst (g f) (bZ (g f)++args.toList.map g)).ok):Mj P w0 X H β w a o (fun res=>∃r',Ab r r'∧res=bP P H r' dst (g f) (bZ (g f)++args.toList.map g)):=by
 have hok0:=hok r hself
 cases hcal:bV (g f)with
 |none=>unfold bP at hok0;rw[hcal]at hok0;cases r<;>exact hok0.elim
 |some p=>
  obtain⟨fid,caps⟩:=p
  cases r with
  |none=>unfold bP at hok0;rw[hcal]at hok0;exact hok0.elim
  |some q=>
   cases q with
   |plain r=>
    have he:∀as,bX ((bZ (g f)++args.toList.map g++caps).map (close H 8))=some as→bP P H (some (.plain r)) dst (g f) (bZ (g f)++args.toList.map g)=⟨nK dst r.v,Ok P fid as r∧(∀p∈eT dst r.v,H p.1=.absent),eT dst r.v++(if r.fresh then []else aP H ((bZ (g f)++args.toList.map g++caps).flatMap (bL H 8)))⟩:=fun as has=>by
     unfold bP;rw[hcal];simp only[has]
    cases has:bX ((bZ (g f)++args.toList.map g++caps).map (close H 8))with
    |none=>unfold bP at hok0;rw[hcal]at hok0;simp only[has]at hok0;exact hok0.elim
    |some as=>
     rw[he as has]at hok0
     refine(Gw m hg ho hcal has hok0.1.toR (fr:=r.fresh) (fun r' h=>by rw[h]) (fun r' h=>by rw[h];exact hok0.2) (c:=True)).mono ?_
     rintro res ⟨r',rfl,rfl⟩
     exact⟨_,⟨_,rfl,rfl⟩,by rw[he as has],by rw[he as has]⟩
   |gen gn=>
    have he:∀as,jE H gn.σ gn.shut 0 (bZ (g f)++args.toList.map g++caps)=some as→(bP P H (some (.gen gn)) dst (g f) (bZ (g f)++args.toList.map g)).v=ren (iV gn.σ gn.new) 8 gn.ret∧(bP P H (some (.gen gn)) dst (g f) (bZ (g f)++args.toList.map g)).up=((iV gn.σ gn.new).map fun p=>(p.2,cD (iV gn.σ gn.new) (aK gn.fin p.1)))++aP H (jF H gn.shut 0 (bZ (g f)++args.toList.map g++caps)):=fun as has=>by
     unfold bP;rw[hcal];simp only[has];exact⟨trivial,trivial⟩
    cases has:jE H gn.σ gn.shut 0 (bZ (g f)++args.toList.map g++caps)with
    |none=>unfold bP at hok0;rw[hcal]at hok0;simp only[has]at hok0;exact hok0.elim
    |some as=>
     unfold bP at hok0;rw[hcal]at hok0;simp only[has]at hok0
     obtain⟨h1,h2,h3,h4,h5,h6⟩:=hok0
     refine((MA m hg ho hcal has h1 h3 h4 (fun p hp=>(h5 p hp).1) h6 (c:=True)).toE (rs:=fun res=>res=_) rfl).mono ?_
     rintro res rfl
     exact⟨_,⟨_,rfl,rfl⟩,(he as has).1,(he as has).2⟩
   |rel Rel fr r=>
    have he:∀as r,bX ((bZ (g f)++args.toList.map g++caps).map (close H 8))=some as→bP P H (some (.rel Rel fr r)) dst (g f) (bZ (g f)++args.toList.map g)=⟨nK dst r.v,Qg P fid as Rel∧(∀q,Rel q→q.fresh=fr)∧(∀p∈eT dst r.v,H p.1=.absent),eT dst r.v++(if fr then []else aP H ((bZ (g f)++args.toList.map g++caps).flatMap (bL H 8)))⟩:=fun as r has=>by
     unfold bP;rw[hcal];simp only[has]
    cases has:bX ((bZ (g f)++args.toList.map g++caps).map (close H 8))with
    |none=>unfold bP at hok0;rw[hcal]at hok0;simp only[has]at hok0;exact hok0.elim
    |some as=>
     rw[he as r has]at hok0
     refine(Gw (dst:=dst) m hg ho hcal has hok0.1 (fr:=fr) hok0.2.1 (fun r' h=>?_) (c:=True)).mono ?_
     ·have:=hok (some (.rel Rel fr r')) ⟨r',h,hok0.2.1 r' h,rfl⟩
      rw[he as r' has]at this
      exact this.2.2
     ·rintro res ⟨r',h,rfl⟩
      exact⟨_,⟨_,⟨r',h,hok0.2.1 r' h,rfl⟩,rfl⟩,by rw[he as r' has],by rw[he as r' has]⟩
   |genR gn Rel=>
    have he:∀as fin ret,jE H gn.σ gn.shut 0 (bZ (g f)++args.toList.map g++caps)=some as→(bP P H (some (.genR {gn with fin:=fin,ret:=ret} Rel)) dst (g f) (bZ (g f)++args.toList.map g)).v=ren (iV gn.σ gn.new) 8 ret∧
     (bP P H (some (.genR {gn with fin:=fin,ret:=ret} Rel)) dst (g f) (bZ (g f)++args.toList.map g)).up=((iV gn.σ gn.new).map fun p=>(p.2,cD (iV gn.σ gn.new) (aK fin p.1)))++aP H (jF H gn.shut 0 (bZ (g f)++args.toList.map g++caps)):=fun as fin ret has=>by
     unfold bP;rw[hcal];simp only[has];exact⟨trivial,trivial⟩
    cases has:jE H gn.σ gn.shut 0 (bZ (g f)++args.toList.map g++caps)with
    |none=>unfold bP at hok0;rw[hcal]at hok0;simp only[has]at hok0;exact hok0.elim
    |some as=>
     unfold bP at hok0;rw[hcal]at hok0;simp only[has]at hok0
     obtain⟨h1,h2,h3,h4,h5,h6⟩:=hok0
     refine(Eu m hg ho hcal has h1 h3 h4 (fun p hp=>(h5 p hp).1) h6 (c:=True)).mono ?_
     rintro res ⟨fin,ret,h,rfl⟩
     exact⟨_,⟨_,⟨fin,ret,h,rfl⟩,rfl⟩,(he as fin ret has).1,(he as fin ret has).2⟩
   |_=>unfold bP at hok0;rw[hcal]at hok0;exact hok0.elim
end
end Go.Eng
namespace Go.Eng
open Go.RowKit
theorem qU.empty:qU #[] 0:=⟨fun i e h=>by simp at h,fun i j e e' h=>by simp at h⟩
theorem qU.push{arr:Array MapEntry}{clock:Nat}(h:qU arr clock)(k v:Value):qU (arr.push {key:=k,val:=v,born:=clock}) (clock+1):=by
 have key:∀(i:Nat) (e:MapEntry),(arr.push {key:=k,val:=v,born:=clock})[i]? =some e→(i=arr.size∧e.born=clock)∨(arr[i]? =some e∧i<arr.size):=fun i e hi=>by
  rw[Array.getElem?_push]at hi
  split at hi
  ·injection hi with hi;subst hi;exact .inl ⟨by assumption,rfl⟩
  ·exact .inr ⟨hi,(Array.getElem?_eq_some_iff.1 hi).1⟩
 refine⟨fun i e hi=>?_,fun i j e e' hi hj he=>?_⟩
 ·rcases key i e hi with⟨_,h1⟩|⟨h1,_⟩
  ·omega
  ·have:=h.1 i e h1;omega
 ·rcases key i e hi with⟨p1,p2⟩|⟨p1,p2⟩<;>rcases key j e' hj with⟨q1,q2⟩|⟨q1,q2⟩
  ·omega
  ·have:=h.1 j e' q1;omega
  ·have:=h.1 i e p1;omega
  ·exact h.2 i j e e' p1 q1 he
theorem qU.modify{arr:Array MapEntry}{clock:Nat}(h:qU arr clock)(i:Nat)(k v:Value):qU (arr.modify i fun e=>{e with key:=k,val:=v}) clock:=by
 have key:∀(j:Nat) (e:MapEntry),(arr.modify i fun e=>{e with key:=k,val:=v})[j]? =some e→∃e0,arr[j]? =some e0∧e.born=e0.born:=fun j e hj=>by
  rw[Array.getElem?_modify]at hj
  split at hj
  ·rw[Option.map_eq_some_iff]at hj;obtain⟨e0,h1,rfl⟩:=hj;exact⟨e0,h1,rfl⟩
  ·exact⟨e,hj,rfl⟩
 refine⟨fun j e hj=>?_,fun j l e e' hj hl he=>?_⟩
 ·obtain⟨e0,h1,h2⟩:=key j e hj;rw[h2];exact h.1 j e0 h1
 ·obtain⟨e0,h1,h2⟩:=key j e hj;obtain⟨f0,g1,g2⟩:=key l e' hl;exact h.2 j l e0 f0 h1 g1 (by omega)
theorem AW{arr:Array MapEntry}{i j:Nat}:(arr.eraseIdxIfInBounds i)[j]? =if j<i then arr[j]? else arr[j+1]? :=by
 rw[←Array.getElem?_toList,Array.toList_eraseIdxIfInBounds,List.getElem?_eraseIdx]
 split<;>simp
theorem qU.erase{arr:Array MapEntry}{clock:Nat}(h:qU arr clock)(i:Nat):qU (arr.eraseIdxIfInBounds i) clock:=by
 have key:∀(j:Nat) (e:MapEntry),(arr.eraseIdxIfInBounds i)[j]? =some e→arr[if j<i then j else j+1]? =some e:=fun j e hj=>by
  rw[AW]at hj
  split at hj
  ·rename_i h;rw[if_pos h];exact hj
  ·rename_i h;rw[if_neg h];exact hj
 refine⟨fun j e hj=>h.1 _ e (key j e hj),fun j l e e' hj hl he=>?_⟩
 have:=h.2 _ _ e e' (key j e hj) (key l e' hl) he
 split at this<;>split at this<;>omega
theorem Gx{a b:DV}(h:AT a b=some true):a=b:=by
 unfold AT at h
 split at h
 ·split at h
  ·rename_i e;subst e;simp at h;rw[h]
  ·cases h
 ·simp at h;rw[h]
 ·simp at h;rw[h]
 ·cases h
theorem Ev:∀{a b:List DV},jI a b=some true→a=b
 |[],[],_=>rfl
 |[],_::_,h=>by simp[jI]at h
 |_::_,[],h=>by simp[jI]at h
 |a::x,b::y,h=>by
  simp only[jI]at h
  split at h
  ·rename_i p q h1 h2
   simp only[Option.some.injEq,Bool.and_eq_true]at h
   rw[h.1]at h1;rw[h.2]at h2
   rw[Gx h1,Ev h2]
  ·cases h
theorem Il{a b:DV}(h:mC a b=some true):a=b:=by
 unfold mC at h
 split at h
 ·rw[Ev h]
 ·exact Gx h
theorem uP:∀{k:DV} {ks:List DV} {i j:Nat},kR k ks i=some (some j)→i≤j∧ks[j-i]? =some k
 |k,[],i,j,h=>by simp[kR]at h
 |k,x::r,i,j,h=>by
  simp only[kR]at h
  split at h
  ·rename_i e
   injection h with h;injection h with h;subst h
   exact⟨Nat.le_refl _,by simp[Il e]⟩
  ·obtain⟨h1,h2⟩:=uP h
   refine⟨by omega,?_⟩
   rw[show j-i=(j-(i+1))+1 by omega];simpa using h2
  ·cases h
section
variable{P:Program} {T:TypeId→lA} {w0:iU} {X:Nat→Prop} {H:Nat→aX} {β:Nat→Option Nat} {w:World} {a:Act} {o:Oper} {g:Operand→LV} {E:Nat→Prop}
structure CV(P:Program)(kt:TypeId)(k:DV):Prop where
 check:∀(w:World) (E:Nat→Prop) (em:Bool) (v:Value),RD w E k v→(Instr.checkKey em 10000 kt v).run P w=.ok () w
 find:∀(w:World) (E:Nat→Prop) (v:Value),RD w E k v→∀(ks:List DV) (es:List MapEntry) (i:Nat) (r:Option Nat),ks.length=es.length→(∀(j:Nat) (d:DV) (e:MapEntry),ks[j]? =some d→es[j]? =some e→RD w E d e.key)→
  kR k ks i=some r→(∃d,P.underlying kt=some d∧(Instr.findNow d v es i=some (r.map fun j=>(j,(es.getD (j-i) default).val))∨(Instr.findNow d v es i=none∧(Instr.findAsking kt v es i).run P w=.ok (r.map fun j=>(j,(es.getD (j-i) default).val)) w)))
 same:∀(w:World) (E:Nat→Prop) (v v':Value),RD w E k v→RD w E k v'→Instr.sameBits 10000 v' v=true
theorem CW(x:ByteArray):(x==x)=true:=by
 show(x.data==x.data)=true
 simp
def FD(d:TypeDesc):Prop:=(∃q,d=.int q)∨d=.bool∨d=.string
theorem wT{kt:TypeId}{d:TypeDesc}(hd:P.underlying kt=some d)(hp:FD d)(em:Bool)(n:Nat)(v:Value):(Instr.checkKey em (n+1) kt v).run P w=.ok () w:=by
 unfold Instr.checkKey
 rcases hp with⟨q,rfl⟩|rfl|rfl<;>simp[run_underlying hd]
def Im(v:Value):Prop:=(∃k n,v=.int k n)∨(∃b,v=.bool b)∨∃s,v=.string s
theorem wU{v:Value}(h:Im v)(n:Nat):Instr.sameBits n v v=true:=by
 rcases h with⟨k,m,rfl⟩|⟨b,rfl⟩|⟨s,rfl⟩
 ·cases n<;>simp[Instr.sameBits]
 ·cases n<;>simp[Instr.sameBits]
 ·cases n<;>simp[Instr.sameBits,CW]
theorem zJ{t:TK}{c:DV}(h:hU t c=true):∃v,Im v∧∀w E u,RD w E c u→u=v:=by
 cases t<;>cases c<;>simp only[hU]at h<;>try(cases h;done)
 ·rename_i k n;exact⟨.int k n,.inl ⟨_,_,rfl⟩,fun w E u hu=>by cases hu;rfl⟩
 ·rename_i b;exact⟨.bool b,.inr (.inl ⟨_,rfl⟩),fun w E u hu=>by cases hu;rfl⟩
 ·rename_i b;exact⟨.string ⟨b.toArray⟩,.inr (.inr ⟨_,rfl⟩),fun w E u hu=>by cases hu;rfl⟩
theorem Kz(a b:List UInt8):((⟨a.toArray⟩:ByteArray)==⟨b.toArray⟩)=(a==b):=by
 show(a.toArray==b.toArray)=(a==b)
 simp
theorem BM{t:TK}{d:TypeDesc}(hd:uL d t){k x:DV}(hk:hU t k=true){c:Bool}(hq:mC k x=some c){v v':Value}(hv:RD w E k v)(hx:RD w E x v'):Instr.sameNow d v v'=some c:=by
 cases t<;>cases k<;>simp only[hU]at hk<;>try(cases hk;done)
 ·rename_i kk j n
  cases x<;>simp only[mC,AT]at hq<;>try(cases hq;done)
  cases hv;cases hx
  cases d<;>simp only[uL]at hd
  split at hq
  ·rename_i e;subst e
   simp only[Instr.sameNow,if_true]
   rw[←hq]
   rfl
  ·cases hq
 ·cases x<;>simp only[mC,AT]at hq<;>try(cases hq;done)
  cases hv;cases hx
  cases d<;>simp only[uL]at hd
  simpa only[Instr.sameNow]using hq
 ·cases x<;>simp only[mC,AT]at hq<;>try(cases hq;done)
  cases hv;cases hx
  cases d<;>simp only[uL]at hd
  simp only[Instr.sameNow,Kz]
  exact hq
theorem KA{kt:TypeId}{k:DV}{d:TypeDesc}{t:TK}(hd:P.underlying kt=some d)(htk:uL d t)(hk:hU t k=true):CV P kt k:=by
 have hp:FD d:=by
  cases t<;>cases k<;>simp only[hU]at hk<;>try(cases hk;done)
  all_goals cases d<;>simp only[uL]at htk<;>first|exact .inl ⟨_,rfl⟩|exact .inr (.inl rfl)|exact .inr (.inr rfl)
 obtain⟨pv,hpv,huniq⟩:=zJ hk
 refine⟨fun w E em v hv=>wT hd hp em 9999 v,fun w E v hv ks es i r hl hp hr=>⟨d,hd,.inl ?_⟩,fun w E v v' hv hv'=>by rw[huniq _ _ _ hv,huniq _ _ _ hv'];exact wU hpv 10000⟩
 induction ks generalizing es i r with
 |nil=>
  have:es=[]:=List.eq_nil_of_length_eq_zero (by simpa using hl.symm)
  subst this
  simp only[kR,Option.some.injEq]at hr
  subst hr
  rfl
 |cons x ks ih=>
  cases es with
  |nil=>simp at hl
  |cons e es=>
   have hx:=hp 0 x e rfl rfl
   have hp':∀(j:Nat) (d:DV) (e:MapEntry),ks[j]? =some d→es[j]? =some e→RD w E d e.key:=fun j d e hj he=>hp (j+1) d e (by simpa using hj) (by simpa using he)
   simp only[kR]at hr
   simp only[Instr.findNow]
   split at hr
   ·rename_i q
    injection hr with hr;subst hr
    rw[BM htk hk q hv hx]
    simp
   ·rename_i q
    rw[BM htk hk q hv hx]
    simp only
    rw[ih es (i+1) r (by simpa using hl) hp' hr]
    cases r with
    |none=>rfl
    |some j=>
     have:=(uP hr).1
     simp only[Option.map_some]
     rw[show j-i=(j-(i+1))+1 by omega]
     simp
   ·cases hr
theorem Eg{kt:TypeId}{cs:List DV}{tks:List TK}(hne:cs≠[])(hks:bD tks cs=true)(g2:P.stoodInHeld kt=false){fs:Array Field}(g3:P.underlying kt=some (.struct fs))(g4:fs.toList.length=tks.length)
 (g5:∀(j:Nat) (f:Field) (k:TK),fs.toList[j]? =some f→tks[j]? =some k→f.name≠ "_" ∧f.offset=j∧pZ P f.type k):CV P kt (.agg cs):=by
 have hfo:P.fieldsOf kt=fs:=by simp[Program.fieldsOf,g3]
 have hlen:∀(tks:List TK) (cs:List DV),bD tks cs=true→tks.length=cs.length:=by
  intro tks
  induction tks with
  |nil=>intro cs h;cases cs<;>simp_all[bD]
  |cons t r ih=>intro cs h;cases cs with
   |nil=>simp[bD]at h
   |cons c cs=>simp only[bD,Bool.and_eq_true]at h;simp[ih cs h.2]
 have hkind:∀(tks:List TK) (cs:List DV),bD tks cs=true→∀(i:Nat) (t:TK) (c:DV),tks[i]? =some t→cs[i]? =some c→hU t c=true:=by
  intro tks
  induction tks with
  |nil=>intro cs h i t c ht;simp at ht
  |cons t r ih=>intro cs h i t' c ht hc;cases cs with
   |nil=>simp at hc
   |cons c0 cs=>
    simp only[bD,Bool.and_eq_true]at h
    cases i with
    |zero=>simp at ht hc;subst ht;subst hc;exact h.1
    |succ i=>exact ih cs h.2 i t' c (by simpa using ht) (by simpa using hc)
 have heq:∀(w:World) (E:Nat→Prop) (v v':Value) (x:DV) (c:Bool),RD w E (.agg cs) v→RD w E x v'→mC (.agg cs) x=some c→(Op.equal kt v v').run P w=.ok c w:=by
  intro w E v v' x c hv hx hq
  cases x with
  |agg ys=>
   simp only[mC]at hq
   cases hv with
   |agg _ us hul _ hup=>cases hx with
    |agg _ vs hvl _ hvp=>
     have hrun:=run_equalIn_struct (P:=P) w 9999 kt us.toArray vs.toArray (by rw[hfo];exact g3) g2
     rw[hfo,Ad 9998 cs ys tks us vs us.toArray vs.toArray fs.toList 0 c E hq hks hul hvl g4 hup hvp (fun i v h=>by simpa using h) (fun i v h=>by simpa using h) (fun i f k h1 h2=>by simpa using g5 i f k h1 h2)]at hrun
     exact hrun
  |_=>simp[mC,AT]at hq
 have hagg:∀(w:World) (E:Nat→Prop) (v:Value),RD w E (.agg cs) v→∃vs:List Value,v=.agg vs.toArray∧vs.length=cs.length∧∀(i:Nat) (c:DV) (v:Value),cs[i]? =some c→vs[i]? =some v→RD w E c v:=fun w E v hv=>by
  cases hv with|agg _ us hul _ hup=>exact⟨us,rfl,hul,hup⟩
 refine⟨fun w E em v hv=>?_,fun w E v hv ks es i r hl hp hr=>⟨_,g3,?_⟩,fun w E v v' hv hv'=>?_⟩
 ·obtain⟨vs,rfl,hvl,hvp⟩:=hagg w E v hv
  have each:∀f∈fs.toList,f.name≠ "_" ∧∃u,(part f.type vs.toArray f.offset).run P w=.ok u w∧(Instr.checkKey em 9999 f.type u).run P w=.ok () w:=by
   intro f hf
   obtain⟨j,hj,rfl⟩:=List.getElem_of_mem hf
   have hjl:j<tks.length:=by omega
   have hjc:j<cs.length:=by rw[←hlen tks cs hks];exact hjl
   obtain⟨n1,n2,n3⟩:=g5 j _ _ (List.getElem?_eq_getElem hj) (List.getElem?_eq_getElem hjl)
   clear hf
   generalize fs.toList[j]=fl at n1 n2 n3⊢
   refine⟨n1,vs[j]'(by omega),?_,?_⟩
   ·obtain⟨d,d1,d2⟩:∃d,P.underlying fl.type=some d∧(match d with| .struct _| .array _ _=>true|_=>false)=false:=by
     cases q:tks[j]<;>rw[q]at n3<;>simp only[pZ]at n3<;>first|(cases n3;done)|exact⟨_,n3,rfl⟩
    unfold part
    have:(isAgg fl.type).run P w=.ok false w:=by
     rw[←d2]
     cases d<;>simp[isAgg,run_underlying d1]
    rw[Sem.run_bind,this]
    simp[n2,show j<vs.length by omega]
   ·have:∃d,P.underlying fl.type=some d∧FD d:=by
     cases q:tks[j]<;>rw[q]at n3<;>simp only[pZ]at n3<;>first|(cases n3;done)|exact⟨_,n3,.inl ⟨_,rfl⟩⟩|exact⟨_,n3,.inr (.inl rfl)⟩|exact⟨_,n3,.inr (.inr rfl)⟩
    obtain⟨d,d1,d2⟩:=this
    exact wT d1 d2 em 9998 _
  rw[show(10000:Nat)=9999+1 from rfl,Instr.checkKey]
  simp only[Sem.run_bind,run_underlying g3,Result.andThen_ok]
  rw[←Array.forIn_toList]
  clear g3 g4 g5 hfo heq
  generalize fs.toList=L at each
  induction L with
  |nil=>simp
  |cons f L ih=>
   obtain⟨hn,u,p1,p2⟩:=each f (by simp)
   simp only[List.forIn_cons,Sem.run_bind,hn,ne_eq,not_false_eq_true,if_true,Result.andThen_ok,p1,p2,Sem.run_pure]
   exact ih (fun y hy=>each y (by simp[hy]))
 ·have hvs:=hagg w E v hv
  cases es with
  |nil=>
   cases ks with
   |nil=>simp only[kR,Option.some.injEq]at hr;subst hr;exact .inl rfl
   |cons=>simp at hl
  |cons e0 es0=>
   right
   refine⟨?_,?_⟩
   ·obtain⟨vs,rfl,_⟩:=hvs
    simp[Instr.findNow,Instr.sameNow]
   ·clear hvs
    generalize e0::es0=es at*
    induction ks generalizing es i r with
    |nil=>
     have:es=[]:=List.eq_nil_of_length_eq_zero (by simpa using hl.symm)
     subst this
     simp only[kR,Option.some.injEq]at hr
     subst hr
     simp[Instr.findAsking]
    |cons x ks ih=>
     cases es with
     |nil=>simp at hl
     |cons e es=>
      have hx:=hp 0 x e rfl rfl
      have hp':∀(j:Nat) (d:DV) (e:MapEntry),ks[j]? =some d→es[j]? =some e→RD w E d e.key:=fun j d e hj he=>hp (j+1) d e (by simpa using hj) (by simpa using he)
      simp only[kR]at hr
      simp only[Instr.findAsking,Sem.run_bind]
      split at hr
      ·rename_i q
       injection hr with hr;subst hr
       rw[heq w E v e.key x true hv hx q]
       simp
      ·rename_i q
       rw[heq w E v e.key x false hv hx q]
       simp only[Result.andThen_ok,Bool.false_eq_true,if_false]
       rw[ih (i+1) r hr es (by simpa using hl) hp']
       cases r with
       |none=>rfl
       |some j=>
        have:=(uP hr).1
        simp only[Option.map_some]
        rw[show j-i=(j-(i+1))+1 by omega]
        simp
      ·cases hr
 ·obtain⟨vs,rfl,hvl,hvp⟩:=hagg w E v hv
  obtain⟨us,rfl,hul,hup⟩:=hagg w E v' hv'
  have each:∀(i:Nat) (hi:i<cs.length),us[i]'(by omega)=vs[i]'(by omega)∧Im (vs[i]'(by omega)):=fun i hi=>by
   have hit:i<tks.length:=by rw[hlen tks cs hks];exact hi
   obtain⟨pv,h1,h2⟩:=zJ (hkind tks cs hks i _ _ (List.getElem?_eq_getElem hit) (List.getElem?_eq_getElem hi))
   rw[h2 _ _ _ (hvp i _ _ (List.getElem?_eq_getElem hi) (List.getElem?_eq_getElem (by omega))),h2 _ _ _ (hup i _ _ (List.getElem?_eq_getElem hi) (List.getElem?_eq_getElem (by omega)))]
   exact⟨rfl,h1⟩
  have hsame:us=vs:=List.ext_getElem (by omega) fun i h1 h2=>(each i (by omega)).1
  subst hsame
  simp only[Instr.sameBits,List.size_toArray,beq_self_eq_true,Bool.true_and,List.all_eq_true]
  rintro⟨x,y⟩ hxy
  obtain⟨i,hi,hxy⟩:=List.getElem_of_mem hxy
  simp at hi hxy
  obtain⟨rfl,rfl⟩:=hxy
  exact wU (each i (by omega)).2 9999
theorem AX(hT:mA P T)(hE:∀t,(T t).eqk≠[]→(T t).k.isNone=false){kt:TypeId}{k:DV}(h:mU (T kt) k=true):CV P kt k:=by
 unfold mU at h
 split at h
 ·rename_i cs
  simp only[Bool.and_eq_true,Bool.not_eq_true',List.isEmpty_eq_false_iff]at h
  have hek:(T kt).eqk≠[]:=fun e=>by rw[e]at h;cases cs<;>simp_all[bD]
  obtain⟨g1,gs|ga⟩:=(hT kt (hE kt hek)).eqk hek
  ·obtain⟨g2,fs,g3,g4,g5⟩:=gs
   exact Eg h.1.2 h.1.1 g2 g3 g4 g5
  ·exfalso
   obtain⟨n,e,inf,kse,hu,_⟩:=ga
   have h2:=h.2
   cases q:(T kt).k with
   |struct fs=>obtain⟨fa,hf,_⟩:=hT.struct q;rw[hu]at hf;cases hf
   |_=>rw[q]at h2;cases h2
 ·have hn:(T kt).k.isNone=false:=by cases q:(T kt).k<;>rw[q]at h<;>simp_all[hU,TK.isNone]
  obtain⟨inf,d,z,h1,h2,h3,_⟩:=hT.parts hn
  exact KA h2 h3 h
theorem CV.findKey{kt:TypeId}{k:DV}(h:CV P kt k){v:Value}(hv:RD w E k v){ks:List DV}{es:List MapEntry}{r:Option Nat}(hl:ks.length=es.length)(hp:∀(j:Nat) (d:DV) (e:MapEntry),ks[j]? =some d→es[j]? =some e→RD w E d e.key)
 (hr:kR k ks 0=some r):(Instr.findKey kt v es).run P w=.ok (r.map fun j=>(j,(es.getD j default).val)) w:=by
 obtain⟨d,hd,h|⟨h,h2⟩⟩:=h.find w E v hv ks es 0 r hl hp hr
 ·simp[Instr.findKey,run_underlying hd,h]
 ·simp[Instr.findKey,run_underlying hd,h,h2]
theorem In(m:fX w0 X H β w){x:LV}{v:Value}(hx:R w (Ex X β H) β H x v){ks vs:List DV}(hm:nC H x=some (ks,vs)):
 ∃b clock arr,v=.map (some b)∧w.heap[b]? =some (.map arr clock)∧ks.length=arr.size∧vs.length=arr.size∧qU arr clock∧
  (∀(i:Nat) (d:DV) (e:MapEntry),ks[i]? =some d→arr[i]? =some e→RD w (Ex X β H) d e.key)∧∀(i:Nat) (d:DV) (e:MapEntry),vs[i]? =some d→arr[i]? =some e→RD w (Ex X β H) d e.val:=by
 unfold nC at hm
 split at hm
 ·rename_i ks' vs'
  injection hm with hm;injection hm with h1 h2;subst h1;subst h2
  cases hx with
  |d _ _ hx=>cases hx with
   |mp _ _ b clock arr _ _ hblk hk hl hborn h1 h2=>exact⟨b,clock,arr,rfl,hblk,hk,hl,hborn,h1,h2⟩
 ·rename_i id
  cases hH:H id with
  |map fz ks' vs'=>
   rw[hH]at hm
   injection hm with hm;injection hm with h1 h2;subst h1;subst h2
   have ho:=m.obj id
   simp only[fU,hH]at ho
   obtain⟨b,arr,clock,hb,hblk,hk,hl,hborn,h1,h2⟩:=ho
   cases hx with
   |mp _ b' _ _ _ _ hb'=>
    rw[hb]at hb';injection hb' with hb';subst hb'
    exact⟨b,clock,arr,rfl,hblk,hk,hl,hborn,h1,h2⟩
   |mpdead _ _ hd=>rw[hH]at hd;cases hd
  |_=>rw[hH]at hm;cases hm
 ·cases hm
theorem pK{b clock:Nat}{arr:Array MapEntry}(hb:w.heap[b]? =some (.map arr clock)):(getObj b).run P w=.ok (.map arr clock) w:=by simp[getObj,Sem.run,hb]
theorem CX(u:Value)(h:u.oneCell'=true):RD w E (kW u) u:=by
 unfold kW
 split
 ·exact .bool _
 ·exact .int _ _
 ·rename_i s
  have:=RD.str (w:=w) (E:=E) s.data.toList
  rw[uK]at this
  exact this
 ·exact .sl0 none 0 (by unfold maxLen;omega)
 ·exact .val _ h
theorem OW(hT:mA P T){t:TypeId}(h:(T t).k.isNone=false):∃z,(zeroValue t).run P w=.ok z w∧RD w E (dS (T t)) z:=by
 obtain⟨inf,h1,h2,h3⟩:=(hT t h).zv
 have one:=(hT t h).one
 refine⟨_,by simp[zeroValue,typeInfo,h1,h2];rfl,?_⟩
 unfold dS
 cases q:(T t).k.agg with
 |true=>
  simp only[if_true]
  refine .agg _ _ (by simp) one fun i c v hc hv=>?_
  rw[List.getElem?_map,hv]at hc
  simp at hc;subst hc
  exact CX v (one v (List.mem_of_getElem? hv))
 |false=>
  have hl:=h3 q
  match hz:(T t).zero,hl with
  |[u],_=>
   simp only[Bool.false_eq_true,if_false,List.map_cons,List.map_nil,List.getD_cons_zero]
   exact CX u (one u (by rw[hz];simp))
theorem Io(m:fX w0 X H β w){t:TypeId}(ho:o.op=.makeMap t none)(hok:(cL H (o.dst.getD 0)).ok):pP P w0 X H β w a o (cL H (o.dst.getD 0)):=by
 simp only[cL]at hok⊢
 obtain⟨m2,g2⟩:=m.newObj (w':=w.alloc (.map #[] 0)) ((En.refl _ _).alloc (Nat.le_refl _) _) hok (o:=.map false [] []) (some w.heap.size) (fun b hb=>by injection hb with hb;subst hb;simp) fun _ _=>by
  unfold fU
  rw[aJ]
  exact⟨w.heap.size,#[],0,by rw[aJ],heap_alloc_new w _,rfl,rfl,qU.empty,by simp,by simp⟩
 refine bQ (v:=.map (some w.heap.size)) (w':=w.alloc (.map #[] 0)) (β':=cN β (o.dst.getD 0) (some w.heap.size)) ?_ (by simp only[aQ];exact m2) (by simp only[aQ];exact g2) ?_
 ·simp[execOp,ho,Instr.makeMap]
 ·simp only[aQ]
  exact .mp _ w.heap.size false [] [] (by rw[aJ]) (by rw[aJ])
theorem KB(hT:mA P T)(hE:∀t,(T t).eqk≠[]→(T t).k.isNone=false)(m:fX w0 X H β w)(hg:∀x,R w (Ex X β H) β H (g x) (a.eval x)){t:TypeId}{x i:Operand}{ck:Bool}(ho:o.op=.lookup t x i ck)
 (hok:(pH T H t (g x) (g i) ck).ok):pP P w0 X H β w a o (pH T H t (g x) (g i) ck):=by
 unfold pH at*
 split at hok
 ·rename_i kt et ks vs k hk hm hgi
  obtain⟨b,clock,arr,hv,hblk,hkl,hvl,_,hkey,hval⟩:=In m (hg x) hm
  have hi:=hg i
  rw[hgi]at hi
  have hi:RD w (Ex X β H) k (a.eval i):=by cases hi with|d _ _ h=>exact h
  have hu:=hT.mapd hk
  have fin:∀(r:Option Nat) (z:Value),CV P kt k→kR k ks 0=some r→(r=none→(zeroValue et).run P w=.ok z w)→
   (execOp a.eval o).run P w=.ok (.value (if ck then .tuple #[match r with|some j=>(arr.toList.getD j default).val|none=>z,.bool r.isSome]else match r with|some j=>(arr.toList.getD j default).val|none=>z)) w:=by
   intro r z hK hr hz
   have h1:=hK.check w _ arr.isEmpty _ hi
   have h2:=hK.findKey (es:=arr.toList) hi (by simpa using hkl) (fun j d e hd he=>hkey j d e hd (by simpa using he)) hr
   cases r with
   |none=>simp[execOp,ho,Instr.lookup,run_underlying hu,hv,pK hblk,h1,h2,hz rfl]
   |some j=>simp[execOp,ho,Instr.lookup,run_underlying hu,hv,pK hblk,h1,h2]
  split at hok
  ·rename_i j hf
   simp only[oZ.cond]at hok⊢
   have hK:=AX hT hE hok
   have hj:=uP hf
   have hjl:j<ks.length:=by have:=(List.getElem?_eq_some_iff.1 hj.2).1;omega
   have hrv:RD w (Ex X β H) (vs.getD j default) (arr.toList.getD j default).val:=by
    have h1:j<vs.length:=by omega
    have h2:j<arr.size:=by omega
    have:=hval j (vs[j]) (arr[j]) (List.getElem?_eq_getElem h1) (Array.getElem?_eq_getElem h2)
    simpa [List.getD_eq_getElem?_getD,h1,h2]using this
   have hrun:=fin (some j) undef hK hf (by simp)
   cases ck with
   |true=>
    simp only[if_true]at hrun⊢
    refine pP.plain m hrun (.tup _ [_,_] rfl fun i l v hl hv=>?_)
    match i,hl,hv with
    |0,hl,hv=>injection hl with hl;injection hv with hv;subst hl;subst hv;exact .d _ _ hrv
    |1,hl,hv=>injection hl with hl;injection hv with hv;subst hl;subst hv;exact dM _
   |false=>exact pP.plain m hrun (.d _ _ hrv)
  ·rename_i hf
   simp only[oZ.cond]at hok⊢
   have hK:=AX hT hE hok.1
   obtain⟨z,hz,hrz⟩:=OW (P:=P) (w:=w) (E:=Ex X β H) hT hok.2
   have hrun:=fin none z hK hf (fun _=>hz)
   cases ck with
   |true=>
    simp only[if_true]at hrun⊢
    refine pP.plain m hrun (.tup _ [_,_] rfl fun i l v hl hv=>?_)
    match i,hl,hv with
    |0,hl,hv=>injection hl with hl;injection hv with hv;subst hl;subst hv;exact .d _ _ hrz
    |1,hl,hv=>injection hl with hl;injection hv with hv;subst hl;subst hv;exact dM _
   |false=>exact pP.plain m hrun (.d _ _ hrz)
  ·exact hok.elim
 ·exact hok.elim
theorem MB(w:World)(b:Nat)(o':Obj)(k:Nat)(h:k≠b):(w.heap.setIfInBounds b o')[k]? =w.heap[k]? :=by simp[Ne.symm h]
theorem fX.rewriteMap(m:fX w0 X H β w){id b clock clock':Nat}{ks vs ks' vs':List DV}{arr arr':Array MapEntry}(hH:H id=.map false ks vs)(hb:β id=some b)(hblk:w.heap[b]? =some (.map arr clock))
 (hk:ks'.length=arr'.size)(hl:vs'.length=arr'.size)(hborn:qU arr' clock')
 (hkey:∀(i:Nat) (d:DV) (e:MapEntry),ks'[i]? =some d→arr'[i]? =some e→RD w (Ex X β H) d e.key)(hval:∀(i:Nat) (d:DV) (e:MapEntry),vs'[i]? =some d→arr'[i]? =some e→RD w (Ex X β H) d e.val):
 fX w0 X (cN H id (.map false ks' vs')) β {w with heap:=w.heap.setIfInBounds b (.map arr' clock')}∧lF X H β w (cN H id (.map false ks' vs')) β {w with heap:=w.heap.setIfInBounds b (.map arr' clock')}:=by
 refine m.rewriteG (by rw[hH];rfl) hb rfl rfl rfl (Nat.le_refl _) (by simp) (fun k hk=>MB w b _ k hk) ?_ fun hD _=>?_
 ·unfold cC
  rw[hH,aJ]
  exact .inr ⟨⟨false,ks',vs',rfl⟩,rfl⟩
 ·unfold fU
  rw[aJ]
  exact⟨b,arr',clock',hb,by simp[(Array.getElem?_eq_some_iff.1 hblk).1],hk,hl,hborn,fun i d e hd he=>hD _ _ (hkey i d e hd he),fun i d e hd he=>hD _ _ (hval i d e hd he)⟩
theorem vP{b clock:Nat}{arr:Array MapEntry}(o':Obj)(hb:w.heap[b]? =some (.map arr clock)):(setObj b o').run P w=.ok () {w with heap:=w.heap.setIfInBounds b o'}:=by simp[setObj,Sem.run,hb]
theorem Aj(hT:mA P T)(hE:∀t,(T t).eqk≠[]→(T t).k.isNone=false)(m:fX w0 X H β w){t:TypeId}{x i y:Operand}{lx li ly:LV}(hx:R w (Ex X β H) β H lx (a.eval x))(hi:R w (Ex X β H) β H li (a.eval i))(hy:R w (Ex X β H) β H ly (a.eval y))(ho:o.op=.mapUpdate t x i y∨o.op=.insert t x i y)
 (hok:(iD T H t lx li ly).ok):pP P w0 X H β w a o (iD T H t lx li ly):=by
 unfold iD at*
 split at hok
 ·rename_i kt et id k v hk
  split at hok
  ·rename_i ks vs hH
   have hi:RD w (Ex X β H) k (a.eval i):=by cases hi with|d _ _ h=>exact h
   have hy:RD w (Ex X β H) v (a.eval y):=by cases hy with|d _ _ h=>exact h
   have hu:=hT.mapd hk
   have hob:=m.obj id
   simp only[fU,hH]at hob
   obtain⟨b,arr,clock,hb,hblk,hkl,hvl,hborn,hkey,hval⟩:=hob
   have hxv:a.eval x=.map (some b):=by
    generalize a.eval x=vx at hx
    cases hx with
    |mp _ b' _ _ _ _ hb'=>rw[hb]at hb';injection hb' with hb';rw[hb']
    |mpdead _ _ hd=>rw[hH]at hd;cases hd
   split at hok
   ·rename_i j hf
    simp only at hok⊢
    have hK:=AX hT hE hok
    have h1:=hK.check w _ false _ hi
    have h2:=hK.findKey (es:=arr.toList) hi (by simpa using hkl) (fun j d e hd he=>hkey j d e hd (by simpa using he)) hf
    have hj:=(uP hf).2
    rw[Nat.sub_zero]at hj
    have hjl:j<ks.length:=(List.getElem?_eq_some_iff.1 hj).1
    have hja:j<arr.size:=by omega
    have hold:=hkey j k arr[j] hj (Array.getElem?_eq_getElem hja)
    have hst:(Instr.keyThatStays arr[j].key (a.eval i)).run P w=.ok (a.eval i) w:=by simp[Instr.keyThatStays,hK.same w _ _ _ hi hold]
    obtain⟨m2,g2⟩:=m.rewriteMap hH hb hblk (ks':=ks) (vs':=vs.set j v) (arr':=arr.modify j fun e=>{e with key:=a.eval i,val:=a.eval y}) (clock':=clock) (by simpa using hkl) (by simpa using hvl) (hborn.modify j _ _)
     (fun l d e hd he=>by
       rw[Array.getElem?_modify]at he
       split at he
       ·rename_i q;subst q
        rw[hj]at hd;injection hd with hd;subst hd
        rw[Option.map_eq_some_iff]at he;obtain⟨e0,_,rfl⟩:=he
        exact hi
       ·exact hkey l d e hd he)
     (fun l d e hd he=>by
       rw[Array.getElem?_modify]at he
       rw[List.getElem?_set]at hd
       split at he
       ·rename_i q;subst q
        rw[if_pos rfl,if_pos (by omega)]at hd
        injection hd with hd;subst hd
        rw[Option.map_eq_some_iff]at he;obtain⟨e0,_,rfl⟩:=he
        exact hy
       ·rename_i q
        rw[if_neg q]at hd
        exact hval l d e hd he)
    refine tT (w':=_) (β':=β) ?_ (by simp only[aQ];exact m2) (by simp only[aQ];exact g2) rfl
    rcases ho with ho|ho<;>simp[execOp,ho,Instr.mapUpdate,run_underlying hu,hxv,pK hblk,h1,h2,hja,hst,vP _ hblk]
   ·rename_i hf
    simp only at hok⊢
    have hK:=AX hT hE hok
    have h1:=hK.check w _ false _ hi
    have h2:=hK.findKey (es:=arr.toList) hi (by simpa using hkl) (fun j d e hd he=>hkey j d e hd (by simpa using he)) hf
    have last:∀(ls:List DV) (z:DV) (u:Value) (f:MapEntry→Value),ls.length=arr.size→f {key:=a.eval i,val:=a.eval y,born:=clock}=u→RD w (Ex X β H) z u→(∀(i:Nat) (d:DV) (e:MapEntry),ls[i]? =some d→arr[i]? =some e→RD w (Ex X β H) d (f e))→
     ∀(l:Nat) (d:DV) (e:MapEntry),(ls++[z])[l]? =some d→(arr.push {key:=a.eval i,val:=a.eval y,born:=clock})[l]? =some e→RD w (Ex X β H) d (f e):=by
     intro ls z u f hl hu hz hp l d e hd he
     rw[Array.getElem?_push]at he
     split at he
     ·rename_i q
      injection he with he;subst he
      rw[List.getElem?_append_right (by omega)]at hd
      rw[hu]
      rw[q,hl]at hd
      simp at hd;subst hd
      exact hz
     ·have hlt:=(Array.getElem?_eq_some_iff.1 he).1
      rw[List.getElem?_append_left (by omega)]at hd
      exact hp l d e hd he
    obtain⟨m2,g2⟩:=m.rewriteMap hH hb hblk (ks':=ks++[k]) (vs':=vs++[v]) (arr':=arr.push {key:=a.eval i,val:=a.eval y,born:=clock}) (clock':=clock+1) (by simp[hkl]) (by simp[hvl]) (hborn.push _ _)
     (last ks k _ (·.key) hkl rfl hi hkey) (last vs v _ (·.val) hvl rfl hy hval)
    refine tT (w':=_) (β':=β) ?_ (by simp only[aQ];exact m2) (by simp only[aQ];exact g2) rfl
    rcases ho with ho|ho<;>simp[execOp,ho,Instr.mapUpdate,run_underlying hu,hxv,pK hblk,h1,h2,vP _ hblk]
   ·exact hok.elim
  ·exact hok.elim
 ·exact hok.elim
theorem Ew(hT:mA P T)(hE:∀t,(T t).eqk≠[]→(T t).k.isNone=false)(m:fX w0 X H β w)(hg:∀x,R w (Ex X β H) β H (g x) (a.eval x)){t:TypeId}{x i y:Operand}(ho:o.op=.mapUpdate t x i y∨o.op=.insert t x i y)
 (hok:(cK T H t (g x) (g i) (g y)).ok):pP P w0 X H β w a o (cK T H t (g x) (g i) (g y)):=by
 have hy:=hg y
 generalize g y=ly at*
 unfold cK at*
 split at hok
 ·exact Aj hT hE m (hg x) (hg i) hy ho hok
 ·cases q:close H 8 ly with
  |none=>simp only[q]at hok;exact hok.elim
  |some v=>
   simp only[q]at hok⊢
   obtain⟨m',gg⟩:=m.freeze (bL H 8 ly)
   have core:=Aj hT hE m' (gg.R (hg x)) (gg.R (hg i)) (.d _ _ (lN m q (fun _ h=>h) hy)) ho hok
   intro K Q hK
   refine core K Q fun u w' β' m2 g2 hv=>hK u w' β' ?_ ?_ ?_<;>simp only[]<;>rw[BL]
   ·exact m2
   ·exact gg.trans g2
   ·exact hv
theorem KD(hT:mA P T)(hE:∀t,(T t).eqk≠[]→(T t).k.isNone=false)(m:fX w0 X H β w)(hg:∀x,R w (Ex X β H) β H (g x) (a.eval x)){t u:TypeId}{x i:Operand}(ho:o.op=.call {callee:=.builtin .delete,args:= #[x,i],argTypes:= #[t,u]})
 (hok:(pI T H t (g x) (g i)).ok):pP P w0 X H β w a o (pI T H t (g x) (g i)):=by
 unfold pI at*
 split at hok
 ·rename_i kt et id k hk hgx hgi
  split at hok
  ·rename_i ks vs hH
   have hx:=hg x
   have hi:=hg i
   rw[hgx]at hx;rw[hgi]at hi
   have hi:RD w (Ex X β H) k (a.eval i):=by cases hi with|d _ _ h=>exact h
   have hu:=hT.mapd hk
   have hob:=m.obj id
   simp only[fU,hH]at hob
   obtain⟨b,arr,clock,hb,hblk,hkl,hvl,hborn,hkey,hval⟩:=hob
   have hxv:a.eval x=.map (some b):=by
    generalize a.eval x=vx at hx
    cases hx with
    |mp _ b' _ _ _ _ hb'=>rw[hb]at hb';injection hb' with hb';rw[hb']
    |mpdead _ _ hd=>rw[hH]at hd;cases hd
   split at hok
   ·rename_i j hf
    simp only at hok⊢
    have hK:=AX hT hE hok
    have h1:=hK.check w _ arr.isEmpty _ hi
    have h2:=hK.findKey (es:=arr.toList) hi (by simpa using hkl) (fun j d e hd he=>hkey j d e hd (by simpa using he)) hf
    have hj:=(uP hf).2
    rw[Nat.sub_zero]at hj
    have hjl:j<ks.length:=(List.getElem?_eq_some_iff.1 hj).1
    have hsz:(arr.eraseIdxIfInBounds j).size=arr.size-1:=by simp[Array.eraseIdxIfInBounds,show j<arr.size by omega]
    obtain⟨m2,g2⟩:=m.rewriteMap hH hb hblk (ks':=ks.eraseIdx j) (vs':=vs.eraseIdx j) (arr':=arr.eraseIdxIfInBounds j) (clock':=clock) (by rw[hsz,List.length_eraseIdx_of_lt hjl];omega) (by rw[hsz,List.length_eraseIdx_of_lt (by omega)];omega) (hborn.erase j)
     (fun l d e hd he=>by
       rw[AW]at he
       rw[List.getElem?_eraseIdx]at hd
       split at he
       ·rename_i q;rw[if_pos q]at hd;exact hkey _ d e hd he
       ·rename_i q;rw[if_neg q]at hd;exact hkey _ d e hd he)
     (fun l d e hd he=>by
       rw[AW]at he
       rw[List.getElem?_eraseIdx]at hd
       split at he
       ·rename_i q;rw[if_pos q]at hd;exact hval _ d e hd he
       ·rename_i q;rw[if_neg q]at hd;exact hval _ d e hd he)
    refine bQ (v:=.tuple #[]) (w':=_) (β':=β) ?_ (by simp only[aQ];exact m2) (by simp only[aQ];exact g2) (.junk _)
    simp[execOp,ho,resolve,invoke,builtin,Builtin.delete_,run_underlying hu,hxv,pK hblk,h1,h2,vP _ hblk]
   ·rename_i hf
    simp only at hok⊢
    have hK:=AX hT hE hok
    have h1:=hK.check w _ arr.isEmpty _ hi
    have h2:=hK.findKey (es:=arr.toList) hi (by simpa using hkl) (fun j d e hd he=>hkey j d e hd (by simpa using he)) hf
    obtain⟨m2,g2⟩:=m.rewriteMap hH hb hblk (ks':=ks) (vs':=vs) (arr':=arr) (clock':=clock) hkl hvl hborn hkey hval
    refine bQ (v:=.tuple #[]) (w':=_) (β':=β) ?_ (by simp only[aQ];exact m2) (by simp only[aQ];exact g2) (.junk _)
    simp[execOp,ho,resolve,invoke,builtin,Builtin.delete_,run_underlying hu,hxv,pK hblk,h1,h2,vP _ hblk]
   ·exact hok.elim
  ·exact hok.elim
 ·exact hok.elim
theorem MC(hT:mA P T)(m:fX w0 X H β w)(hg:∀x,R w (Ex X β H) β H (g x) (a.eval x)){t kt et:TypeId}{x:Operand}(ho:o.op=.range t x)(hk:(T t).k=.map kt et)
 (hok:(eA H (o.dst.getD 0) (g x)).ok):pP P w0 X H β w a o (eA H (o.dst.getD 0) (g x)):=by
 have hx:=hg x
 have hu:=hT.mapd hk
 unfold eA at*
 split at hok
 ·rename_i ks vs hgx
  simp only at hok⊢
  rw[hgx]at hx
  obtain⟨b,clock,arr,hv,hne,hlt,hblk,hkl,hvl,hborn,hkey,hval⟩:∃b clock arr,a.eval x=.map (some b)∧¬Ex X β H b∧b<w.heap.size∧w.heap[b]? =some (.map arr clock)∧ks.length=arr.size∧vs.length=arr.size∧qU arr clock∧
   (∀(i:Nat) (d:DV) (e:MapEntry),ks[i]? =some d→arr[i]? =some e→RD w (Ex X β H) d e.key)∧∀(i:Nat) (d:DV) (e:MapEntry),vs[i]? =some d→arr[i]? =some e→RD w (Ex X β H) d e.val:=by
   generalize a.eval x=vx at hx
   cases hx with
   |d _ _ hx=>cases hx with
    |mp _ _ b clock arr h1 h2 h3 h4 h5 h6 h7 h8=>exact⟨b,clock,arr,rfl,h1,h2,h3,h4,h5,h6,h7,h8⟩
  have hfil:(arr.filter fun e=> !(#[]:Array Nat).contains e.born)=arr:=by simp
  have hgrow:=(m.grow (w':=w.alloc (.mapIter (some b) clock #[] clock)) ((En.refl _ _).alloc (Nat.le_refl _) _)).2
  obtain⟨m2,g2⟩:=m.newObj (w':=w.alloc (.mapIter (some b) clock #[] clock)) ((En.refl _ _).alloc (Nat.le_refl _) _) hok (o:=.iter false ks vs) (some w.heap.size) (fun b hb=>by injection hb with hb;subst hb;simp) fun hD _=>by
   unfold fU
   rw[aJ]
   refine⟨w.heap.size,b,arr,clock,#[],clock,by rw[aJ],heap_alloc_new w _,?_,by simp;omega,?_,hborn,fun _=>rfl,by rw[hfil];exact hkl,by rw[hfil];exact hvl,by rw[hfil];exact fun i d e hd he=>hD _ _ (hkey i d e hd he),by rw[hfil];exact fun i d e hd he=>hD _ _ (hval i d e hd he)⟩
   ·rintro(h|⟨j,h1,h2⟩)
    ·exact hne (.inl h)
    ·by_cases hj:j=o.dst.getD 0
     ·subst hj;rw[aJ]at h2;injection h2 with h2;omega
     ·rw[cP _ _ hj]at h1 h2;exact hne (.inr ⟨j,h1,h2⟩)
   ·rw[Below.heap_alloc _ _ _ hlt];exact hblk
  refine bQ (v:=.pointer (some ⟨w.heap.size,0,none⟩)) (w':=w.alloc (.mapIter (some b) clock #[] clock)) (β':=cN β (o.dst.getD 0) (some w.heap.size)) ?_ (by simp only[aQ];exact m2) (by simp only[aQ];exact g2) ?_
  ·simp[execOp,ho,Instr.range,run_underlying hu,hv,pK hblk]
  ·simp only[aQ]
   exact .it _ w.heap.size false ks vs (by rw[aJ]) (by rw[aJ])
 ·exact hok.elim
end
end Go.Eng
