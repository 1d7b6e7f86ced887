/-
  Texts of the proofs of this seat, part 9. No condition.
-/
import Derived.Test.YtmndmahpoljhmaaGreatDoorMH
import Derived.Test.YtmndmahpoljhmaaGreatDoorRows
import Derived.ChangeSame
import Derived.Lib.LaidTab
set_option linter.unusedVariables false
set_option linter.unusedSimpArgs false
namespace Go.Eng
open Go.RowKit
def Gm(P:Program):List Field→Nat→Bool
 |[],_=>true
 |f::r,o=>f.offset==o&&Gm P r (o+P.cellsOf f.type)
def yF(P:Program):Nat→TypeId→DataW Unit→Option (List Value)
 |0,_,_=>none
 |n+1,t,d=>match P.underlying t,d with
  |some (.int _),.lit (.int k z)=>some [.int k z]
  |some .string,.lit (.string s)=>some [.string ⟨s.toArray⟩]
  |some (.array _ e),.agg ds=>match ds.mapM (yF P n e)with
   |some xs=>if xs.all (fun x=>x.length==P.cellsOf e)&&xs.length*P.cellsOf e==P.cellsOf t then some xs.flatten else none
   |none=>none
  |some (.struct fs),.agg ds=>match(fs.toList.zip ds).mapM (fun p=>yF P n p.1.type p.2)with
   |some xs=>if Gm P fs.toList 0&&xs.flatten.length==P.cellsOf t&&((fs.toList.zip xs).all fun p=>p.2.length==P.cellsOf p.1.type)&&ds.length==fs.size then some xs.flatten else none
   |none=>none
  |_,_=>none
theorem Fz{c:Nat}:∀(xs:List (List Value)) (cs:List Value),cs.length=xs.length*c→(∀(i:Nat) (x:List Value),xs[i]? =some x→(cs.drop (i*c)).take c=x)→cs=xs.flatten
 |[],cs,hl,_=>by
  have:cs=[]:=List.eq_nil_of_length_eq_zero (by simpa using hl)
  simp[this]
 |x::xs,cs,hl,h=>by
  have h0:=h 0 x rfl
  simp only[Nat.zero_mul,List.drop_zero]at h0
  have hr:=Fz (c:=c) xs (cs.drop c) (by rw[List.length_drop,hl,List.length_cons,Nat.succ_mul];omega) fun i y hy=>by
   have:=h (i+1) y (by simpa using hy)
   rw[List.drop_drop,Nat.add_comm c,←Nat.succ_mul]
   exact this
  rw[List.flatten_cons,←hr,←h0,List.take_append_drop]
theorem Cq{P:Program}{cs:List Value}:∀(fs:List Field) (xs:List (List Value)) (o:Nat),Gm P fs o=true→xs.length=fs.length→(∀(i:Nat) (f:Field) (x:List Value),fs[i]? =some f→xs[i]? =some x→(cs.drop f.offset).take (P.cellsOf f.type)=x∧x.length=P.cellsOf f.type)→
 (cs.drop o).take xs.flatten.length=xs.flatten
 |[],[],_,_,_,_=>by simp
 |[],_::_,_,_,h,_=>by simp at h
 |_::_,[],_,_,h,_=>by simp at h
 |f::fs,x::xs,o,ho,hl,h=>by
  simp only[Gm,Bool.and_eq_true,beq_iff_eq]at ho
  obtain⟨h1,h2⟩:=h 0 f x rfl rfl
  have hr:=Cq fs xs (o+P.cellsOf f.type) ho.2 (by simpa using hl) fun i g y hg hy=>h (i+1) g y (by simpa using hg) (by simpa using hy)
  rw[ho.1]at h1
  rw[List.flatten_cons,List.length_append,List.take_add,h2,h1,List.drop_drop,hr]
theorem Mi{enc:TypeId×Value→Unit}{P:Program}{w:World}{base:Nat}{sp:Nat→Bool}{held:Bool}:∀(n fuel:Nat) (t:TypeId) (cs:List Value) (d:DataW Unit) (p:List MemPlace) (vs:List Value),
 DataW.trod enc P w base sp held fuel t cs=some (d,p)→yF P n t d=some vs→cs=vs:=by
 intro n
 induction n with
 |zero=>intro fuel t cs d p vs _ h;cases h
 |succ n ih=>
  intro fuel t cs d p vs ht hv
  unfold yF at hv
  split at hv
  ·rename_i k' k z hu
   obtain⟨m,rfl,hx,_⟩:=DataW.trod_int hu ht
   injection hx with e1 e2
   injection e1 with e1
   injection e1 with e3 e4
   subst e3 e4
   exact Option.some.inj hv
  ·rename_i s hu
   obtain⟨b,rfl,hx,_⟩:=DataW.trod_string hu ht
   injection hx with e1 e2
   injection e1 with e1
   injection e1 with e3
   subst e3
   exact Option.some.inj hv
  ·rename_i m e ds hu
   cases fuel with
   |zero=>simp[DataW.trod]at ht
   |succ fuel=>
    unfold DataW.trod at ht
    rw[hu]at ht
    simp only at ht
    split at ht
    ·rename_i hl
     obtain⟨ys,hm,hx⟩:=Option.map_eq_some_iff.1 ht
     have hds:ys.map (·.1)=ds:=by
      have:=congrArg Prod.fst hx
      simpa using this
     split at hv
     ·rename_i xs hxs
      split at hv
      ·rename_i hc
       simp only[Bool.and_eq_true,List.all_eq_true,beq_iff_eq]at hc
       have hv:=Option.some.inj hv
       rw[←hv]
       have hyl:ys.length=m:=by simpa using Lib.mapM_length hm
       have hxl:xs.length=ds.length:=Lib.mapM_length hxs
       have hdl:ds.length=m:=by rw[←hds,List.length_map,hyl]
       refine Fz (c:=P.cellsOf e) xs cs (by rw[hl,hc.2]) fun i x hx'=>?_
       have hi:i<m:=by have:=(List.getElem?_eq_some_iff.1 hx').1;omega
       obtain⟨y,hy,hf⟩:=Lib.mapM_at hm i i (by simp[hi])
       have hdi:ds[i]? =some y.1:=by rw[←hds,List.getElem?_map,hy];rfl
       obtain⟨x2,hx2,hlc⟩:=Lib.mapM_at hxs i _ hdi
       have:x2=x:=Option.some.inj (hx2.symm.trans hx')
       subst this
       exact ih fuel e _ y.1 y.2 x2 hf hlc
      ·cases hv
     ·cases hv
    ·cases ht
  ·rename_i fs ds hu
   obtain⟨ys,m,rfl,hx,hl,hyl,hf⟩:=DataW.trod_struct hu ht
   have hds:ys.map (·.1)=ds:=by
    have:=congrArg Prod.fst hx
    simpa using this.symm
   split at hv
   ·rename_i xs hxs
    split at hv
    ·rename_i hc
     simp only[Bool.and_eq_true,List.all_eq_true,beq_iff_eq]at hc
     obtain⟨⟨⟨c1,c2⟩,c3⟩,c4⟩:=hc
     have hv:=Option.some.inj hv
     rw[←hv]
     have hxl:xs.length=(fs.toList.zip ds).length:=Lib.mapM_length hxs
     have hzl:(fs.toList.zip ds).length=fs.size:=by rw[List.length_zip,c4];simp
     have key:=Cq (P:=P) (cs:=cs) fs.toList xs 0 c1 (by rw[hxl,hzl];simp) fun i f x hfi hxi=>by
      have hfa:fs[i]? =some f:=by simpa using hfi
      have hyi:=hf i f hfa
      have hi:i<fs.size:=(Array.getElem?_eq_some_iff.1 hfa).1
      obtain⟨y,hy⟩:∃y,ys[i]? =some y:=⟨_,List.getElem?_eq_getElem (by omega)⟩
      rw[hy]at hyi
      have hdi:ds[i]? =some y.1:=by rw[←hds,List.getElem?_map,hy];rfl
      have hz:(fs.toList.zip ds)[i]? =some (f,y.1):=by
       rw[List.getElem?_zip_eq_some]
       exact⟨hfi,hdi⟩
      obtain⟨x2,hx2,hlc⟩:=Lib.mapM_at hxs i _ hz
      have:x2=x:=Option.some.inj (hx2.symm.trans hxi)
      subst this
      refine⟨ih m f.type _ _ _ x2 hyi hlc,?_⟩
      have hz2:(fs.toList.zip xs)[i]? =some (f,x2):=by
       rw[List.getElem?_zip_eq_some]
       exact⟨hfi,hxi⟩
      exact c3 _ (List.mem_of_getElem? hz2)
     rw[List.drop_zero,c2,←hl,List.take_length]at key
     exact key
    ·cases hv
   ·cases hv
  ·cases hv
def OK:DV→Value
 | .int k n=>.int k n
 | .str s=>.string ⟨s.toArray⟩
 |_=>undef
def RG:DV→Bool
 | .int _ _=>true
 | .str _=>true
 |_=>false
theorem vL{P:Program}{W:World}{name:String}{g g':Nat}{t t':TypeId}{cs:Array Value}{fuel n:Nat}{p:List MemPlace}{d:DataW Unit}{ds:List DV}{enc:TypeId×Value→Unit}{base:Nat}{sp:Nat→Bool}{held:Bool}
 (hg:P.globalNamed name=some g)(hty:(P.globals[g]?).map (·.type)=some t)(hg':P.globalNamed name=some g')(ht':(P.globals[g']?).map (·.type)=some t')(hvar:W.var? P name=some cs)
 (hd:DataW.trod enc P W base sp held fuel t' cs.toList=some (d,p))(hlit:yF P n t d=some (ds.map OK))(hfl:ds.all RG=true):
 RD W (fun _=>False) (.ro ds) (.pointer (some ⟨g,0,none⟩))∧∃arr t fz,W.heap[g]? =some (.cells arr t fz)∧arr.size=ds.length:=by
 obtain rfl:=Option.some.inj (hg.symm.trans hg')
 obtain rfl:=Option.some.inj (hty.symm.trans ht')
 have hc:=Mi n fuel t cs.toList d p _ hd hlit
 have hsz:cs.size=ds.length:=by
  have:=congrArg List.length hc
  simpa using this
 have hblk:∃ty fz,W.heap[g]? =some (.cells cs ty fz):=by
  unfold World.var? at hvar
  rw[hg]at hvar
  simp only[Option.bind_some]at hvar
  split at hvar
  ·rename_i c ty fz hh
   cases hvar
   exact⟨ty,fz,hh⟩
  ·cases hvar
 obtain⟨ty,fz,hblk⟩:=hblk
 refine⟨.ro ds g 0 (ds.map OK) (fun h=>h) (by simp) (fun u hu=>?_) (Array.getElem?_eq_some_iff.1 hblk).1 (fun j u hj=>?_) (fun i x v hx hv=>?_),cs,ty,fz,hblk,hsz⟩
 ·obtain⟨x,hx,rfl⟩:=List.mem_map.1 hu
  have:=List.all_eq_true.1 hfl x hx
  cases x<;>first|rfl|cases this
 ·have:=World.var?_cell hg hvar j
  rw[Nat.zero_add,this,←hj,←hc]
  simp
 ·rw[List.getElem?_map,hx]at hv
  cases hv
  have:=List.all_eq_true.1 hfl x (List.mem_of_getElem? hx)
  cases x with
  |int k n=>exact .int k n
  |str s=>exact .str s
  |_=>cases this
theorem Sh{w:World}(s:ByteArray):RD w (fun _=>False) (.str s.data.toList) (.string s):=by
 have:=RD.str (w:=w) (E:=fun _=>False) s.data.toList
 rwa[uK]at this
end Go.Eng
namespace Go.Proofs.YtmndmahpoljhmaaGreatDoor.crA
open Go.Eng
theorem gl{W:World}(h:laidMetH Tryz.prog Rows.sourceBlanksRow.laid W):Cr W (fun _=>False):=by
 have h:laidMet Tryz.prog Rows.sourceBlanksRow.laid W:=h
 obtain⟨ps,⟨g1,t1,c1,f1,p1,q1,n1,y1,v1,d1,⟨g2,t2,c2,f2,p2,q2,n2,y2,v2,d2,⟨g3,t3,c3,f3,p3,q3,n3,y3,v3,d3,⟨g4,t4,c4,f4,p4,q4,n4,y4,v4,d4,⟨g5,t5,c5,f5,p5,q5,n5,y5,v5,d5,⟨g6,t6,c6,f6,p6,q6,n6,y6,v6,d6,⟨g7,t7,c7,f7,p7,q7,n7,y7,v7,d7,⟨g8,t8,c8,f8,p8,q8,n8,y8,v8,d8,_,_⟩,_⟩,_⟩,_⟩,_⟩,_⟩,_⟩,_⟩,_⟩:=h
 intro n cs hn
 match n,hn with
 |0,hn=>cases hn;exact vL (n:=4) (g:=0) (t:=100) (by kernel_rfl) (by kernel_rfl) n6 y6 v6 d6 (by kernel_rfl) (by kernel_rfl)
 |1,hn=>cases hn;exact vL (n:=4) (g:=1) (t:=196) (by kernel_rfl) (by kernel_rfl) n8 y8 v8 d8 (by kernel_rfl) (by kernel_rfl)
 |2,hn=>cases hn
 |3,hn=>cases hn
 |4,hn=>cases hn;exact vL (n:=4) (g:=4) (t:=246) (by kernel_rfl) (by kernel_rfl) n7 y7 v7 d7 (by kernel_rfl) (by kernel_rfl)
 |5,hn=>cases hn
 |6,hn=>cases hn
 |7,hn=>cases hn
 |8,hn=>cases hn;exact vL (n:=4) (g:=8) (t:=265) (by kernel_rfl) (by kernel_rfl) n3 y3 v3 d3 (by kernel_rfl) (by kernel_rfl)
 |9,hn=>cases hn;exact vL (n:=4) (g:=9) (t:=151) (by kernel_rfl) (by kernel_rfl) n1 y1 v1 d1 (by kernel_rfl) (by kernel_rfl)
 |10,hn=>cases hn;exact vL (n:=4) (g:=10) (t:=144) (by kernel_rfl) (by kernel_rfl) n2 y2 v2 d2 (by kernel_rfl) (by kernel_rfl)
 |n+11,hn=>cases hn
abbrev rangeS:ByteArray:={data:= #[118,97,108,117,101,32,111,117,116,32,111,102,32,114,97,110,103,101]}
abbrev syntaxS:ByteArray:={data:= #[105,110,118,97,108,105,100,32,115,121,110,116,97,120]}
noncomputable def low:Nat:=(World.holding Tryz.prog default ⟨#[],#[],[]⟩).heap.size
noncomputable def held(g:Nat)(cs:Array Value):Array Value:=match g with
 |6=> #[.iface 273 (.pointer (some ⟨low+1,0,none⟩))]
 |7=> #[.iface 273 (.pointer (some ⟨low,0,none⟩))]
 |g=>match globD g with
  |some ds=>(ds.map OK).toArray
  |none=>cs
noncomputable def laidObj(h:Array Obj)(g:Nat):Array Obj:=h.modify g fun
 | .cells cs t frozen=>.cells (held g cs) t frozen
 |o=>o
noncomputable def laidWorld(os:Os):World:=
 let w0:=World.holding Tryz.prog os ⟨#[.cells #[.string rangeS] 275,.cells #[.string syntaxS] 275],#[],[]⟩
 {w0 with heap:=(List.range 11).foldl laidObj w0.heap}
theorem laidWorld_met(os:Os)(args:Array Value):laidMet Tryz.prog Rows.sourceBlanksRow.laid ((laidWorld os).forCall (fun _ _=>0) ⟨#[],args,[]⟩).memory:=
 laidMet_of_run' 8 (by kernel_rfl) (by kernel_rfl)
end Go.Proofs.YtmndmahpoljhmaaGreatDoor.crA
