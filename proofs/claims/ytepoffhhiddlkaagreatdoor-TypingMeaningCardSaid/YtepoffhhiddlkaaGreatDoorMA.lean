/- Part 1 of the proof. No condition. -/
import Derived.WalkKit
import Derived.WalkSpells
import Derived.WalkLawsBesides
import Derived.ChangeKeysEq
set_option linter.unusedVariables false
set_option linter.unusedSimpArgs false
set_option maxRecDepth 20000
set_option maxHeartbeats 4000000
open List renaming getElem?_take→A0,getElem?_eq_getElem→A1,getElem?_drop→A4,getD_eq_getElem?_getD→A8,mem_of_mem_drop→B0,replicate→B1,eq_nil_of_length_eq_zero→B2,flatMap_cons→B4,getElem?_append_right→B5,mem_of_mem_take→B6,getElem?_append_left→B9,getElem_of_mem→C2,getElem?_eq_some_iff→C3,mem_of_getElem?→C6,replicate_succ→C7,mem_cons→C8,length_append→C9,getElem?_map→D1,getElem_take→D2,getElem_drop→D3,size_toArray→D4,mem_flatMap→D5,getElem_mem→D6,range'_succ→D7,range→D8,range'→E2
open Nat renaming lt_of_lt_of_le→A2,le_refl→A6,add_mul→A9,mul_le_mul_right→B7,le_trans→B8,add_assoc→C1,add_comm→C4,one_mul→C5,eq_zero_or_pos→D0,add_zero→E1
open Int renaming not_lt→E4
open Option renaming map_eq_some_iff→A3
open Array renaming getElem?_eq_some_iff→A5
open Bool renaming false_eq_true→A7,and_eq_true→C0,not_true→D9,true_and→E0
open Or renaming imp→E3
open BitVec renaming ofInt→B3
namespace Go.Eng
theorem aD{p:Prop}(h:p:=by omega):p:=h
theorem bG{p:Prop}(h:p:=by decide):p:=h
theorem bA{p:Prop}(h:p:=by simp):p:=h
theorem kH{p:Prop}(h:p:=by simp;omega):p:=h
theorem zB{p:Prop}(h:p:=by dsimp only;omega):p:=h
inductive DV where
 |int (k:IntKind) (n:Int)
 |bool (b:Bool)
 |str (s:List UInt8)
 |agg (cs:List DV)
 |sl (xs:List DV)
 |ro (cs:List DV)
 |fn (f:FuncId) (caps:List DV)
 |bm (f:FuncId) (first:List DV)
 |val (v:Value)
 |mp (ks vs:List DV)
 deriving Inhabited
def uS:List DV:=[.str [118,97,114],.str [114,101,99],.str [99,104,97,110],.str [108,111,99,107],.str [102,105,108,101],.str [112,114,111,99],.str [116,101,115,116],.str [],.str [],.str [],.str [],.str [105,102],.str [119,104,105,108,101],.str [103,111],.str [99,97,108,108],.str [115,101,110,100],.str [114,101,99,118],.str [97,99,113,117,105,114,101],.str [114,101,108,101,97,115,101],.str [100,114,97,119],.str [110,111,119],.str [115,108,101,101,112],.str [119,114,105,116,101],.str [114,101,97,100],.str [99,104,101,99,107],.str [97,108,108,111,99]]
def SO:List DV:=[.int .u32 1116352408,.int .u32 1899447441,.int .u32 3049323471,.int .u32 3921009573,.int .u32 961987163,.int .u32 1508970993,.int .u32 2453635748,.int .u32 2870763221,.int .u32 3624381080,.int .u32 310598401,.int .u32 607225278,.int .u32 1426881987,.int .u32 1925078388,.int .u32 2162078206,.int .u32 2614888103,.int .u32 3248222580,.int .u32 3835390401,.int .u32 4022224774,.int .u32 264347078,.int .u32 604807628,.int .u32 770255983,.int .u32 1249150122,.int .u32 1555081692,.int .u32 1996064986,.int .u32 2554220882,.int .u32 2821834349,.int .u32 2952996808,.int .u32 3210313671,.int .u32 3336571891,.int .u32 3584528711,.int .u32 113926993,.int .u32 338241895,.int .u32 666307205,.int .u32 773529912,.int .u32 1294757372,.int .u32 1396182291,.int .u32 1695183700,.int .u32 1986661051,.int .u32 2177026350,.int .u32 2456956037,.int .u32 2730485921,.int .u32 2820302411,.int .u32 3259730800,.int .u32 3345764771,.int .u32 3516065817,.int .u32 3600352804,.int .u32 4094571909,.int .u32 275423344,.int .u32 430227734,.int .u32 506948616,.int .u32 659060556,.int .u32 883997877,.int .u32 958139571,.int .u32 1322822218,.int .u32 1537002063,.int .u32 1747873779,.int .u32 1955562222,.int .u32 2024104815,.int .u32 2227730452,.int .u32 2361852424,.int .u32 2428436474,.int .u32 2756734187,.int .u32 3204031479,.int .u32 3329325298]
def Fz:List DV:=[.int .i64 (-999),.int .i64 999,.int .i64 0,.int .i64 0,.int .i64 0,.int .i64 3,.int .i64 0,.int .i64 0,.int .i64 0,.int .i64 0,.int .i64 0,.int .i64 0,.int .i64 0,.int .i64 0,.int .i64 (-999),.int .i64 999,.int .i64 0,.int .i64 0,.int .i64 0,.int .i64 0,.int .i64 0,.int .i64 0,.int .i64 0,.int .i64 0,.int .i64 0,.int .i64 0,.int .i64 0,.int .i64 0,.int .i64 0,.int .i64 0,.int .i64 0,.int .i64 0,.int .i64 0,.int .i64 0,.int .i64 0,.int .i64 0,.int .i64 0,.int .i64 0,.int .i64 2,.int .i64 6,.int .i64 0,.int .i64 0,.int .i64 1,.int .i64 9,.int .i64 0,.int .i64 0,.int .i64 0,.int .i64 0,.int .i64 0,.int .i64 0,.int .i64 1,.int .i64 99,.int .i64 0,.int .i64 0,.int .i64 0,.int .i64 0,.int .i64 0,.int .i64 0,.int .i64 0,.int .i64 0,.int .i64 0,.int .i64 0,.int .i64 0,.int .i64 0,.int .i64 0,.int .i64 999,.int .i64 0,.int .i64 0,.int .i64 0,.int .i64 0,.int .i64 0,.int .i64 0,.int .i64 0,.int .i64 0]
def BR:List DV:=[.str [60],.int .i64 1,.str [60,61],.int .i64 1,.str [61,61],.int .i64 1,.str [43],.int .i64 2,.str [45],.int .i64 2,.str [42],.int .i64 3]
def NV:List DV:=[.int .u64 1,.int .u64 10,.int .u64 100,.int .u64 1000,.int .u64 10000,.int .u64 100000,.int .u64 1000000,.int .u64 10000000,.int .u64 100000000,.int .u64 1000000000,.int .u64 10000000000,.int .u64 100000000000,.int .u64 1000000000000,.int .u64 10000000000000,.int .u64 100000000000000,.int .u64 1000000000000000,.int .u64 10000000000000000,.int .u64 100000000000000000,.int .u64 1000000000000000000,.int .u64 10000000000000000000]
def YM:List DV:=[.int .u8 0,.int .u8 1,.int .u8 28,.int .u8 2,.int .u8 29,.int .u8 14,.int .u8 24,.int .u8 3,.int .u8 30,.int .u8 22,.int .u8 20,.int .u8 15,.int .u8 25,.int .u8 17,.int .u8 4,.int .u8 8,.int .u8 31,.int .u8 27,.int .u8 13,.int .u8 23,.int .u8 21,.int .u8 19,.int .u8 16,.int .u8 7,.int .u8 26,.int .u8 12,.int .u8 18,.int .u8 6,.int .u8 11,.int .u8 5,.int .u8 10,.int .u8 9]
def YN:List DV:=[.int .u8 0,.int .u8 1,.int .u8 56,.int .u8 2,.int .u8 57,.int .u8 49,.int .u8 28,.int .u8 3,.int .u8 61,.int .u8 58,.int .u8 42,.int .u8 50,.int .u8 38,.int .u8 29,.int .u8 17,.int .u8 4,.int .u8 62,.int .u8 47,.int .u8 59,.int .u8 36,.int .u8 45,.int .u8 43,.int .u8 51,.int .u8 22,.int .u8 53,.int .u8 39,.int .u8 33,.int .u8 30,.int .u8 24,.int .u8 18,.int .u8 12,.int .u8 5,.int .u8 63,.int .u8 55,.int .u8 48,.int .u8 27,.int .u8 60,.int .u8 41,.int .u8 37,.int .u8 16,.int .u8 46,.int .u8 35,.int .u8 44,.int .u8 21,.int .u8 52,.int .u8 32,.int .u8 23,.int .u8 11,.int .u8 54,.int .u8 26,.int .u8 40,.int .u8 15,.int .u8 34,.int .u8 20,.int .u8 31,.int .u8 10,.int .u8 25,.int .u8 14,.int .u8 19,.int .u8 9,.int .u8 13,.int .u8 8,.int .u8 7,.int .u8 6]
def globD:Nat->Option (List DV)
 |0=>some uS
 |1=>some SO
 |2=>some Fz
 |5=>some BR
 |8=>some NV
 |9=>some YM
 |10=>some YN
 |_=>none
@[simp] theorem aAY:globD 0=some uS:=rfl
@[simp] theorem aAZ:globD 1=some SO:=rfl
@[simp] theorem aA0:globD 2=some Fz:=rfl
@[simp] theorem aA1:globD 5=some BR:=rfl
@[simp] theorem aA2:globD 8=some NV:=rfl
@[simp] theorem aA3:globD 9=some YM:=rfl
@[simp] theorem aAk:globD 10=some YN:=rfl
open Go.RowKit
structure Ah(B:Nat)(w w':World):Prop where
 os:w'.os=w.os
 tape:w'.tape=w.tape
 output:w'.output=w.output
 size:w.heap.size<=w'.heap.size
 block:∀k,k<B->w'.heap[k]? =w.heap[k]?
 drawn:w.drawn<=w'.drawn
theorem Ah.below{B:Nat}{w a:World}(h:Ah B w a):Below B w a:=⟨h.os,h.tape,h.output,h.size,h.block⟩
theorem Ah.refl(B:Nat)(w:World):Ah B w w:=⟨rfl,rfl,rfl,A6 _,λ_ _=>rfl,A6 _⟩
theorem Ah.of_below{B:Nat}{w a:World}(h:Below B w a)(b:w.drawn<=a.drawn):Ah B w a:=⟨h.os,h.tape,h.output,h.size,h.block,b⟩
theorem Ah.alloc{B:Nat}{w w':World}(h:Ah B w w')(a:B<=w'.heap.size)(o:Obj):Ah B w (w'.alloc o):=.of_below (h.below.alloc a o) h.drawn
theorem Ah.drew{B:Nat}{w w':World}(h:Ah B w w'):Ah B w w'.drew:=.of_below h.below.drew (Nat.le_succ_of_le h.drawn)
def aQ:DV->List DV
 | .agg cs=>cs
 |x=>[x]
def bZ(xs:List DV):List DV:=xs.flatMap aQ
def gF(arr:Array MapEntry)(clock:Nat):Prop:=(∀(i:Nat) (e:MapEntry),arr[i]? =some e->e.born<clock)/\∀(i j:Nat) (e e':MapEntry),arr[i]? =some e->arr[j]? =some e'->e.born=e'.born->i=j
inductive RD(w:World)(E:Nat->Prop):DV->Value->Prop
 |int (k:IntKind) (n:Int):RD w E (.int k n) (.int k n)
 |bool (b:Bool):RD w E (.bool b) (.bool b)
 |str (s:List UInt8):RD w E (.str s) (.string ⟨s.toArray⟩)
 |agg (cs:List DV) (vs:List Value) (hl:vs.length=cs.length) (h1:∀u∈vs,u.oneCell'=true) (h:∀(i:Nat) (c:DV) (v:Value),cs[i]? =some c->vs[i]? =some v->RD w E c v):RD w E (.agg cs) (.agg vs.toArray)
 |sl0 (a:Option Addr) (c:Nat) (hc:c<=maxLen):RD w E (.sl []) (.slice a 0 c)
 |sl (xs:List DV) (b o c size:Nat) (us:List Value) (hx:xs≠[]) (hb:¬E b) (hs:∀x∈xs,(aQ x).length=size) (hlen:xs.length<=c) (hc:c<=maxLen)
   (hul:us.length=xs.length*size) (h1:∀u∈us,u.oneCell'=true) (hlt:b<w.heap.size) (hcell:∀(j:Nat) (u:Value),us[j]? =some u->w.cell? ⟨b,o+j,none⟩=some u)
   (h:∀(i:Nat) (d:DV) (v:Value),(bZ xs)[i]? =some d->us[i]? =some v->RD w E d v):RD w E (.sl xs) (.slice (some ⟨b,o,none⟩) xs.length c)
 |ro (cs:List DV) (b o:Nat) (us:List Value) (hb:¬E b) (hul:us.length=cs.length) (h1:∀u∈us,u.oneCell'=true) (hlt:b<w.heap.size) (hcell:∀(j:Nat) (u:Value),us[j]? =some u->w.cell? ⟨b,o+j,none⟩=some u)
   (h:∀(i:Nat) (d:DV) (v:Value),cs[i]? =some d->us[i]? =some v->RD w E d v):RD w E (.ro cs) (.pointer (some ⟨b,o,none⟩))
 |fn (f:FuncId) (cs:List DV) (vs:List Value) (hl:vs.length=cs.length) (h:∀(i:Nat) (c:DV) (v:Value),cs[i]? =some c->vs[i]? =some v->RD w E c v):RD w E (.fn f cs) (.func (.func f) #[] vs.toArray)
 |bm (f:FuncId) (cs:List DV) (vs:List Value) (hl:vs.length=cs.length) (h:∀(i:Nat) (c:DV) (v:Value),cs[i]? =some c->vs[i]? =some v->RD w E c v):RD w E (.bm f cs) (.func (.func f) vs.toArray #[])
 |val (v:Value) (hv:v.oneCell'=true):RD w E (.val v) v
 |mp (ks vs:List DV) (b clock:Nat) (arr:Array MapEntry) (hb:¬E b) (hlt:b<w.heap.size) (hblk:w.heap[b]? =some (.map arr clock)) (hk:ks.length=arr.size) (hl:vs.length=arr.size) (hborn:gF arr clock)
   (hkey:∀(i:Nat) (d:DV) (e:MapEntry),ks[i]? =some d->arr[i]? =some e->RD w E d e.key) (hval:∀(i:Nat) (d:DV) (e:MapEntry),vs[i]? =some d->arr[i]? =some e->RD w E d e.val):RD w E (.mp ks vs) (.map (some b))
def Lq(w:World)(E:Nat->Prop)(cs:List DV)(vs:List Value):Prop:=vs.length=cs.length/\∀(i:Nat) (c:DV) (v:Value),cs[i]? =some c->vs[i]? =some v->RD w E c v
theorem WY{w:World}{b o:Nat}{u:Value}(h:w.cell? ⟨b,o,none⟩=some u):b<w.heap.size:=by
 have:=World.block_lt_of_cell? w _ h;exact this
theorem RD.step{w p:World}{E q:Nat->Prop}(m:∀k,k<w.heap.size->¬E k->p.heap[k]? =w.heap[k]?)(l:w.heap.size<=p.heap.size)(g:∀k,k<w.heap.size->q k->E k)
 {d:DV}{v:Value}(h:RD w E d v):RD p q d v:=by
 induction h with
 |int k n=>exact .int k n
 |bool b=>exact .bool b
 |str s=>exact .str s
 |agg cs vs hl h1 _ ih=>exact .agg cs vs hl h1 ih
 |sl0 a c hc=>exact .sl0 a c hc
 |sl xs b o c size us hx hb hs' hlen hc hul h1 hlt hcell _ ih=>
  refine .sl xs b o c size us hx (λe=>hb (g b hlt e)) hs' hlen hc hul h1 (A2 hlt l) (λj u i=>?_) ih;rw[World.cell?_of_block (w:=w) (m b hlt hb)];exact hcell j u i
 |ro cs b o us hb hul h1 hlt hcell _ ih=>
  refine .ro cs b o us (λe=>hb (g b hlt e)) hul h1 (A2 hlt l) (λj u i=>?_) ih;rw[World.cell?_of_block (w:=w) (m b hlt hb)];exact hcell j u i
 |fn f cs vs hl _ ih=>exact .fn f cs vs hl ih
 |bm f cs vs hl _ ih=>exact .bm f cs vs hl ih
 |val v hv=>exact .val v hv
 |mp ks vs b clock arr hb hlt hblk hk hl hborn _ _ ih1 ih2=>exact .mp ks vs b clock arr (λe=>hb (g b hlt e)) (A2 hlt l) ((m b hlt hb).trans hblk) hk hl hborn ih1 ih2
def rW:Obj->Bool
 | .deferred _=>false
 | .loop _=>false
 |_=>true
theorem Qk{w:World}{a:Addr}{u:Value}(h:w.cell? a=some u):∃o,w.heap[a.block]? =some o/\rW o=true:=by
 unfold World.cell? at h;cases b:w.heap[a.block]? with
 |none=>simp[b]at h
 |some o=>exact⟨o,rfl,by cases o<;>simp_all[rW]⟩
theorem RD.keep{w i:World}{E:Nat->Prop}(p:∀(k:Nat) (o:Obj),w.heap[k]? =some o->rW o=true->i.heap[k]? =some o)(m:w.heap.size<=i.heap.size)
 {d:DV}{v:Value}(h:RD w E d v):RD i E d v:=by
 have g:∀{a:Addr} {u:Value},w.cell? a=some u->i.cell? a=some u:=λ{a u} h=>by
  obtain⟨o,e,q⟩:=Qk h;rw[World.cell?_of_block (w:=w) ((p _ o e q).trans e.symm)];exact h
 induction h with
 |int k n=>exact .int k n
 |bool b=>exact .bool b
 |str s=>exact .str s
 |agg cs vs hl e _ ih=>exact .agg cs vs hl e ih
 |sl0 a c g=>exact .sl0 a c g
 |sl xs b o c size us hx hb hs' hlen hcm hul e hlt hcell _ ih=>
  exact .sl xs b o c size us hx hb hs' hlen hcm hul e (A2 hlt m) (λj u l=>g (hcell j u l)) ih
 |ro cs b o us hb hul e hlt hcell _ ih=>exact .ro cs b o us hb hul e (A2 hlt m) (λj u l=>g (hcell j u l)) ih
 |fn f cs vs hl _ ih=>exact .fn f cs vs hl ih
 |bm f cs vs hl _ ih=>exact .bm f cs vs hl ih
 |val v hv=>exact .val v hv
 |mp ks vs b clock arr hb hlt hblk hk hl hborn _ _ ih1 ih2=>exact .mp ks vs b clock arr hb (A2 hlt m) (p b _ hblk rfl) hk hl hborn ih1 ih2
theorem RD.anti{w:World}{E a:Nat->Prop}(b:∀k,a k->E k){d:DV}{v:Value}(h:RD w E d v):RD w a d v:=
 h.step (λ_ _ _=>rfl) (A6 _) λk _=>b k
def zI(w:World)(E:Nat->Prop):Prop:=∀n cs,globD n=some cs->RD w E (.ro cs) (.pointer (some ⟨n,0,none⟩))/\∃arr t fz,w.heap[n]? =some (.cells arr t fz)/\arr.size=cs.length
theorem RD.ro_block{w:World}{E:Nat->Prop}{a:List DV}{n:Nat}(h:RD w E (.ro a) (.pointer (some ⟨n,0,none⟩))):¬E n/\n<w.heap.size:=by
 cases h with|ro _ _ _ us hb _ _ hlt _ _=>exact⟨hb,hlt⟩
theorem zI.step{w c:World}{E d:Nat->Prop}(f:∀k,k<w.heap.size->¬E k->c.heap[k]? =w.heap[k]?)(l:w.heap.size<=c.heap.size)(j:∀k,k<w.heap.size->d k->E k)
 (h:zI w E):zI c d:=λn cs e=>by
 obtain⟨b,a,t,fz,g,i⟩:=h n cs e;exact⟨b.step f l j,a,t,fz,by rw[f n b.ro_block.2 b.ro_block.1];exact g,i⟩
theorem zI.anti{w:World}{E a:Nat->Prop}(c:∀k,a k->E k)(h:zI w E):zI w a:=λn b e=>⟨(h n b e).1.anti c,(h n b e).2⟩
def WZ(w:World)(X:Nat->Prop):Prop:=(∀k,X k->k<w.heap.size)/\zI w X
inductive LV where
 |d (x:DV)
 |agg (cs:List LV)
 |bx (id off:Nat)
 |rp (id k j:Nat)
 |ow (id k n:Nat)
 |fn (f:FuncId) (caps:List LV)
 |bm (f:FuncId) (first:List LV)
 |tup (vs:List LV)
 |when (c:Bool) (x:LV)
 |nl
 |mp (id:Nat)
 |it (id:Nat)
 |oc (id k n c:Nat)
 |sb (id k n c:Nat)
 |junk
 deriving Inhabited
inductive bJ where
 |absent
 |dead
 |box (fz:Bool) (cs:List LV)
 |row (fz:Bool) (size:Nat) (xs:List DV)
 |map (fz:Bool) (ks vs:List DV)
 |iter (fz:Bool) (ks vs:List DV)
 |know (x:LV) (v:Value)
 deriving Inhabited
def bJ.mut:bJ->Bool
 | .box fz _=> !fz
 | .row fz _ _=> !fz
 | .map fz _ _=> !fz
 | .iter fz _ _=> !fz
 |_=>false
def bJ.live:bJ->Bool
 | .box _ _=>true
 | .row _ _ _=>true
 | .map _ _ _=>true
 | .iter _ _ _=>true
 |_=>false
def Ex(X:Nat->Prop)(β:Nat->Option Nat)(H:Nat->bJ)(k:Nat):Prop:=X k\/∃id,(H id).mut=true/\β id=some k
inductive R(w:World)(E:Nat->Prop)(β:Nat->Option Nat)(H:Nat->bJ):LV->Value->Prop
 |d (x:DV) (v:Value) (h:RD w E x v):R w E β H (.d x) v
 |agg (cs:List LV) (vs:List Value) (hl:vs.length=cs.length) (h1:∀u∈vs,u.oneCell'=true) (h:∀(i:Nat) (c:LV) (v:Value),cs[i]? =some c->vs[i]? =some v->R w E β H c v):R w E β H (.agg cs) (.agg vs.toArray)
 |bx (id off b:Nat) (fz:Bool) (cs:List LV) (hH:H id=.box fz cs) (hb:β id=some b):R w E β H (.bx id off) (.pointer (some ⟨b,off,none⟩))
 |bxdead (id off:Nat) (v:Value) (hH:H id=.dead) (h1:v.oneCell'=true):R w E β H (.bx id off) v
 |rp (id k j b:Nat) (fz:Bool) (size:Nat) (xs:List DV) (hH:H id=.row fz size xs) (hb:β id=some b):R w E β H (.rp id k j) (.pointer (some ⟨b,k*size+j,none⟩))
 |rpdead (id k j:Nat) (v:Value) (hH:H id=.dead) (h1:v.oneCell'=true):R w E β H (.rp id k j) v
 |ow (id k n b c:Nat) (fz:Bool) (size:Nat) (xs:List DV) (cur:Array Value) (e:TypeId) (hH:H id=.row fz size xs) (hb:β id=some b) (hkn:k+n<=xs.length) (hn:n<=c) (hc:c<=maxLen)
   (hblk:w.heap[b]? =some (.cells cur e (0,0))) (hroom:(k+c)*size=cur.size):R w E β H (.ow id k n) (.slice (some ⟨b,k*size,none⟩) n c)
 |ow0 (id k:Nat) (a:Option Addr) (fz:Bool) (size:Nat) (xs:List DV) (hH:H id=.row fz size xs) (h0:(β id=none/\k=0)\/∃b cur e,β id=some b/\w.heap[b]? =some (.cells cur e (0,0))/\k*size=cur.size/\k<=xs.length):R w E β H (.ow id k 0) (.slice a 0 0)
 |owdead (id k n:Nat) (v:Value) (hH:H id=.dead) (h1:v.oneCell'=true):R w E β H (.ow id k n) v
 |fn (f:FuncId) (cs:List LV) (vs:List Value) (hl:vs.length=cs.length) (h:∀(i:Nat) (c:LV) (v:Value),cs[i]? =some c->vs[i]? =some v->R w E β H c v):R w E β H (.fn f cs) (.func (.func f) #[] vs.toArray)
 |bm (f:FuncId) (cs:List LV) (vs:List Value) (hl:vs.length=cs.length) (h:∀(i:Nat) (c:LV) (v:Value),cs[i]? =some c->vs[i]? =some v->R w E β H c v):R w E β H (.bm f cs) (.func (.func f) vs.toArray #[])
 |tup (cs:List LV) (vs:List Value) (hl:vs.length=cs.length) (h:∀(i:Nat) (c:LV) (v:Value),cs[i]? =some c->vs[i]? =some v->R w E β H c v):R w E β H (.tup cs) (.tuple vs.toArray)
 |when (c:Bool) (x:LV) (v:Value) (h:c=true->R w E β H x v) (h0:c=false->v=undef):R w E β H (.when c x) v
 |nl (a:Option Addr):R w E β H .nl (.slice a 0 0)
 |mp (id b:Nat) (fz:Bool) (ks vs:List DV) (hH:H id=.map fz ks vs) (hb:β id=some b):R w E β H (.mp id) (.map (some b))
 |mpdead (id:Nat) (v:Value) (hH:H id=.dead) (h1:v.oneCell'=true):R w E β H (.mp id) v
 |it (id b:Nat) (fz:Bool) (ks vs:List DV) (hH:H id=.iter fz ks vs) (hb:β id=some b):R w E β H (.it id) (.pointer (some ⟨b,0,none⟩))
 |itdead (id:Nat) (v:Value) (hH:H id=.dead) (h1:v.oneCell'=true):R w E β H (.it id) v
 |oc (id k n c:Nat) (a:Option Addr) (fz:Bool) (size:Nat) (xs:List DV) (hH:H id=.row fz size xs) (hn:n<=c) (hkc:k+c<=xs.length) (hc:c<=maxLen) (ha:c=0\/∃b,β id=some b/\a=some ⟨b,k*size,none⟩):R w E β H (.oc id k n c) (.slice a n c)
 |ocdead (id k n c:Nat) (v:Value) (hH:H id=.dead) (h1:v.oneCell'=true):R w E β H (.oc id k n c) v
 |sb (id k n c:Nat) (a:Option Addr) (b:Nat) (fz:Bool) (cs:List LV) (hH:H id=.box fz cs) (hb:β id=some b) (hn:n<=c) (hc:c<=maxLen) (ha:c=0\/a=some ⟨b,k,none⟩):R w E β H (.sb id k n c) (.slice a n c)
 |sbdead (id k n c:Nat) (v:Value) (hH:H id=.dead) (h1:v.oneCell'=true):R w E β H (.sb id k n c) v
 |junk (v:Value):R w E β H .junk v
def bW(w:World)(β:Nat->Option Nat)(H:Nat->bJ)(w':World)(β':Nat->Option Nat)(H':Nat->bJ)(id:Nat):Prop:=
 match H id with
 | .absent=>True
 | .dead=>H' id=.dead
 | .box _ _=>H' id=.dead\/((∃fz cs,H' id=.box fz cs)/\β' id=β id)
 | .row _ size xs=>H' id=.dead\/((∃fz xs',H' id=.row fz size xs'/\xs.length<=xs'.length)/\β' id=β id/\
     ∀b cur e,β id=some b->w.heap[b]? =some (.cells cur e (0,0))->∃cur' e',w'.heap[b]? =some (.cells cur' e' (0,0))/\cur'.size=cur.size)
 | .map _ _ _=>H' id=.dead\/((∃fz ks vs,H' id=.map fz ks vs)/\β' id=β id)
 | .iter _ _ _=>H' id=.dead\/((∃fz ks vs,H' id=.iter fz ks vs)/\β' id=β id)
 | .know _ _=>True
theorem R.step{w F:World}{E G:Nat->Prop}{β J:Nat->Option Nat}{H I:Nat->bJ}(L:∀x v,RD w E x v->RD F G x v)(p:∀id,bW w β H F J I id)
 {l:LV}{v:Value}(h:R w E β H l v):R F G J I l v:=by
 induction h with
 |d x v h=>exact .d x v (L x v h)
 |agg cs vs hl o _ ih=>exact .agg cs vs hl o ih
 |bx id off b fz cs hH hb=>
  have g:=p id;simp only[bW,hH]at g;rcases g with g|⟨⟨m,cs',g⟩,i⟩
  .exact .bxdead _ _ _ g rfl
  .exact .bx id off b m cs' g (i.trans hb)
 |bxdead id off v hH o=>exact .bxdead id off v (by have g:=p id;simpa only[bW,hH]using g) o
 |rp id k j b fz size xs hH hb=>
  have g:=p id;simp only[bW,hH]at g;rcases g with g|⟨⟨m,r,g,_⟩,i,_⟩
  .exact .rpdead _ _ _ _ g rfl
  .exact .rp id k j b m size r g (i.trans hb)
 |rpdead id k j v hH o=>exact .rpdead id k j v (by have g:=p id;simpa only[bW,hH]using g) o
 |ow id k n b c fz size xs u e hH hb hkn hn hc hblk hroom=>
  have g:=p id;simp only[bW,hH]at g;rcases g with g|⟨⟨m,r,g,t⟩,i,D⟩
  .exact .owdead _ _ _ _ g rfl
  .obtain⟨s,C,q,y⟩:=D b u e hb hblk;exact .ow id k n b c m size r s C g (i.trans hb) aD hn hc q (hroom.trans y.symm)
 |ow0 id k a fz size xs hH h0=>
  have g:=p id;simp only[bW,hH]at g;rcases g with g|⟨⟨m,r,g,t⟩,i,D⟩
  .exact .owdead _ _ _ _ g rfl
  .refine .ow0 id k a m size r g ?_;rcases h0 with⟨o,B⟩|⟨b,u,e,o,B,K,M⟩
   .exact .inl ⟨i.trans o,B⟩
   .obtain⟨s,C,q,y⟩:=D b u e o B;exact .inr ⟨b,s,C,i.trans o,q,K.trans y.symm,aD⟩
 |owdead id k n v hH o=>exact .owdead id k n v (by have g:=p id;simpa only[bW,hH]using g) o
 |fn f cs vs hl _ ih=>exact .fn f cs vs hl ih
 |bm f cs vs hl _ ih=>exact .bm f cs vs hl ih
 |tup cs vs hl _ ih=>exact .tup cs vs hl ih
 |when c x v _ h0 ih=>exact .when c x v ih h0
 |nl a=>exact .nl a
 |mp id b fz ks vs hH hb=>
  have g:=p id;simp only[bW,hH]at g;rcases g with g|⟨⟨m,z,A,g⟩,i⟩
  .exact .mpdead _ _ g rfl
  .exact .mp id b m z A g (i.trans hb)
 |mpdead id v hH o=>exact .mpdead id v (by have g:=p id;simpa only[bW,hH]using g) o
 |it id b fz ks vs hH hb=>
  have g:=p id;simp only[bW,hH]at g;rcases g with g|⟨⟨m,z,A,g⟩,i⟩
  .exact .itdead _ _ g rfl
  .exact .it id b m z A g (i.trans hb)
 |itdead id v hH o=>exact .itdead id v (by have g:=p id;simpa only[bW,hH]using g) o
 |oc id k n c a fz size xs hH hn hkc hc ha=>
  have g:=p id;simp only[bW,hH]at g;rcases g with g|⟨⟨m,r,g,t⟩,i,_⟩
  .exact .ocdead _ _ _ _ _ g rfl
  .exact .oc id k n c a m size r g hn aD hc (ha.imp (λh=>h) λ⟨b,o,B⟩=>⟨b,i.trans o,B⟩)
 |ocdead id k n c v hH o=>exact .ocdead id k n c v (by have g:=p id;simpa only[bW,hH]using g) o
 |sb id k n c a b fz cs hH hb hn hc ha=>
  have g:=p id;simp only[bW,hH]at g;rcases g with g|⟨⟨m,cs',g⟩,i⟩
  .exact .sbdead _ _ _ _ _ g rfl
  .exact .sb id k n c a b m cs' g (i.trans hb) hn hc ha
 |sbdead id k n c v hH o=>exact .sbdead id k n c v (by have g:=p id;simpa only[bW,hH]using g) o
 |junk v=>exact .junk v
def dS(w:World)(E:Nat->Prop)(β:Nat->Option Nat)(H:Nat->bJ)(id:Nat):Prop:=
 match H id with
 | .box _ cs=>∃b e us,β id=some b/\w.heap[b]? =some (.cells (List.toArray us) e (0,0))/\us.length=cs.length/\(∀u∈us,u.oneCell'=true)/\∀(i:Nat) (c:LV) (v:Value),cs[i]? =some c->us[i]? =some v->R w E β H c v
 | .row _ size xs=>0<size/\(∀x∈xs,(aQ x).length=size)/\((β id=none/\xs=[])\/
     ∃b e cur,β id=some b/\w.heap[b]? =some (.cells cur e (0,0))/\xs.length*size<=cur.size/\∀(i:Nat) (d:DV) (v:Value),(bZ xs)[i]? =some d->cur[i]? =some v->v.oneCell'=true/\RD w E d v)
 | .map _ ks vs=>∃b arr clock,β id=some b/\w.heap[b]? =some (.map arr clock)/\ks.length=arr.size/\vs.length=arr.size/\gF arr clock/\
     (∀(i:Nat) (d:DV) (e:MapEntry),ks[i]? =some d->arr[i]? =some e->RD w E d e.key)/\∀(i:Nat) (d:DV) (e:MapEntry),vs[i]? =some d->arr[i]? =some e->RD w E d e.val
 | .iter _ ks vs=>∃b bm arr clock seen last,β id=some b/\w.heap[b]? =some (.mapIter (some bm) clock seen last)/\¬E bm/\bm<w.heap.size/\w.heap[bm]? =some (.map arr clock)/\gF arr clock/\last=clock/\
     ks.length=(arr.filter λe=> !seen.contains e.born).size/\vs.length=(arr.filter λe=> !seen.contains e.born).size/\
     (∀(i:Nat) (d:DV) (e:MapEntry),ks[i]? =some d->(arr.filter λe=> !seen.contains e.born)[i]? =some e->RD w E d e.key)/\∀(i:Nat) (d:DV) (e:MapEntry),vs[i]? =some d->(arr.filter λe=> !seen.contains e.born)[i]? =some e->RD w E d e.val
 | .know x v=>R w E β H x v
 |_=>True
structure uF where
 env:Nat->LV
 H:Nat->bJ
 ok:Prop
structure dE where
 w:World
 β:Nat->Option Nat
 H:Nat->bJ
 pins:List Nat
 flat:Bool
def dE.own(w0:dE)(k:Nat):Prop:=∃id∈w0.pins,(w0.H id).mut=true/\w0.β id=some k
def dE.mine(w0:dE)(k:Nat):Prop:=∃id∈w0.pins,(w0.H id).live=true/\w0.β id=some k
structure SP(w0:dE)(w:World):Prop where
 os:w.os=w0.w.os
 tape:w.tape=w0.w.tape
 output:w.output=w0.w.output
 size:w0.w.heap.size<=w.heap.size
 block:∀k,k<w0.w.heap.size->¬w0.own k->w.heap[k]? =w0.w.heap[k]?
 drawn:w0.w.drawn<=w.drawn
theorem SP.of_below{c:dE}{w b:World}(h:SP c w)(k:Ah w.heap.size w b):SP c b:=
 ⟨k.os.trans h.os,k.tape.trans h.tape,k.output.trans h.output,B8 h.size k.size,λi a d=>(k.block i (A2 a h.size)).trans (h.block i a d),B8 h.drawn k.drawn⟩
def FA(w0:dE)(w:World)(E:Nat->Prop)(l:List Deferred):Prop:=∃Ds:List Nat,(w0.flat=true->Ds=[])/\Ds.Nodup/\l=Ds.map (λD=>{target:=.collected D,args:= #[]})/\∀D∈Ds,w0.w.heap.size<=D/\¬E D/\w.heap[D]? =some (.deferred (some []))
theorem FA.nil{w0:dE}{w:World}{E:Nat->Prop}:FA w0 w E []:=⟨[],λ_=>rfl,List.nodup_nil,rfl,λ_ h=>by cases h⟩
theorem FA.anti{d:dE}{w:World}{E c:Nat->Prop}{l:List Deferred}(h:FA d w E l)(j:∀k,c k->E k):FA d w c l:=
 let⟨e,f,g,i,a⟩:=h;⟨e,f,g,i,λD b=>⟨(a D b).1,λh=>(a D b).2.1 (j D h),(a D b).2.2⟩⟩
structure mG(N:Nat)(w0:dE)(X:Nat->Prop)(env:Nat->LV)(H:Nat->bJ)(β:Nat->Option Nat)(a:Act)(w:World):Prop where
 defers:FA w0 w (Ex X β H) a.defers
 size:a.tmps.size=N
 ext:SP w0 w
 xold:(∀k,X k->k<w0.w.heap.size/\¬w0.mine k)/\zI w0.w λk=>X k\/w0.mine k
 fresh:∀id b,(H id).live=true->β id=some b->(w0.w.heap.size<=b\/w0.mine b/\((H id).mut=true->w0.own b))/\b<w.heap.size
 inj:∀i j b,(H i).live=true->(H j).live=true->β i=some b->β j=some b->i=j
 env:∀t,R w (Ex X β H) β H (env t) (a.tmps.getD t undef)
 obj:∀id,dS w (Ex X β H) β H id
 pin:∀id∈w0.pins,bW w0.w w0.β w0.H w β H id
structure dV(w0:dE)(X:Nat->Prop)(H:Nat->bJ)(β:Nat->Option Nat)(w:World):Prop where
 ext:SP w0 w
 xold:(∀k,X k->k<w0.w.heap.size/\¬w0.mine k)/\zI w0.w λk=>X k\/w0.mine k
 fresh:∀id b,(H id).live=true->β id=some b->(w0.w.heap.size<=b\/w0.mine b/\((H id).mut=true->w0.own b))/\b<w.heap.size
 inj:∀i j b,(H i).live=true->(H j).live=true->β i=some b->β j=some b->i=j
 obj:∀id,dS w (Ex X β H) β H id
 pin:∀id∈w0.pins,bW w0.w w0.β w0.H w β H id
theorem bS{o:bJ}(h:o.mut=true):o.live=true:=by cases o<;>simp_all[bJ.mut,bJ.live]
open Go.RowKit
inductive TK where
 |none
 |int (k:IntKind)
 |bool
 |str
 |slice (e:TypeId)
 |struct (fs:List (Nat×TypeId))
 |arr (n:Nat) (e:TypeId)
 |ptr (e:TypeId)
 |map (k e:TypeId)
 |other
 deriving DecidableEq
def TK.isNone:TK->Bool
 | .none=>true
 |_=>false
def TK.isInt:TK->Bool
 | .int _=>true
 |_=>false
def TK.isPtr:TK->Bool
 | .ptr _=>true
 |_=>false
def TK.isBool:TK->Bool
 | .bool=>true
 |_=>false
def TK.isStr:TK->Bool
 | .str=>true
 |_=>false
structure cW where
 k:TK
 size:Nat
 bytes:Nat
 zero:List Value
 eqk:List TK:=[]
def TK.agg:TK->Bool
 | .struct _=>true
 | .arr _ _=>true
 |_=>false
def cQ{α:Type}(f:Nat->α)(i:Nat)(x:α)(j:Nat):α:=if j=i then x else f j
def cD{α:Type}(f:Nat->α):List (Nat×α)->Nat->α
 |[],j=>f j
 |p::r,j=>if j=p.1 then p.2 else cD f r j
def mI:Value->LV
 | .bool b=>.d (.bool b)
 | .int k n=>.d (.int k n)
 | .string s=>.d (.str s.data.toList)
 | .slice none 0 0=>.nl
 | .agg _=>.junk
 | .tuple _=>.junk
 |v=>.d (.val v)
def pC:Value->LV
 | .bool b=>.d (.bool b)
 | .int k n=>.d (.int k n)
 | .string s=>.d (.str s.data.toList)
 | .slice none 0 0=>.nl
 | .agg vs=>if vs.toList.all Value.oneCell' then .agg (vs.toList.map mI)else .junk
 | .tuple _=>.junk
 |v=>.d (.val v)
def kK(env:Nat->LV):Operand->LV
 | .tmp t=>env t
 | .const v=>pC v
 | .func f=>.d (.fn f [])
 | .global n=>match globD n with
   |some cs=>.d (.ro cs)
   |none=>.junk
def dT:LV->List LV
 | .d (.agg cs)=>cs.map .d
 | .agg cs=>cs
 |x=>[x]
def SQ:LV->Bool
 | .oc _ _ _ _=>true
 |_=>false
def IA:LV->Bool
 | .sb _ _ _ _=>true
 |_=>false
def iX(_:Nat->bJ):LV->Bool
 | .d _=>true
 | .agg _=>true
 | .bx _ _=>true
 | .rp _ _ _=>true
 | .ow _ _ _=>true
 | .oc _ _ _ _=>true
 | .sb _ _ _ _=>true
 | .mp _=>true
 | .fn _ _=>true
 | .bm _ _=>true
 | .nl=>true
 |_=>false
def zJ:List LV->Option (List DV)
 |[]=>some []
 | .d x::r=>(zJ r).map (x::·)
 |_=>none
def mkAgg(cs:List LV):LV:=match zJ cs with|some ds=>.d (.agg ds)|none=>.agg cs
def cS{α:Type}:List (Option α)->Option (List α)
 |[]=>some []
 |some x::r=>(cS r).map (x::·)
 |none::_=>none
def close(H:Nat->bJ):Nat->LV->Option DV
 |0,_=>none
 |n+1,l=>match l with
  | .d x=>some x
  | .agg cs=>(cS (cs.map (close H n))).map .agg
  | .ow id k m=>match H id with
    | .row _ _ xs=>some (.sl ((xs.drop k).take m))
    |_=>none
  | .oc id k m _=>match H id with
    | .row _ _ xs=>some (.sl ((xs.drop k).take m))
    |_=>none
  | .bx id off=>match H id with
    | .box _ cs=>(cS ((cs.drop off).map (close H n))).map .ro
    |_=>none
  | .fn f cs=>(cS (cs.map (close H n))).map (.fn f)
  | .bm f cs=>(cS (cs.map (close H n))).map (.bm f)
  | .nl=>some (.sl [])
  | .mp id=>match H id with
    | .map _ ks vs=>some (.mp ks vs)
    |_=>none
  |_=>none
def bX(H:Nat->bJ):Nat->LV->List Nat
 |0,_=>[]
 |n+1,l=>match l with
  | .agg cs=>cs.flatMap (bX H n)
  | .ow id _ _=>[id]
  | .oc id _ _ _=>[id]
  | .mp id=>[id]
  | .bx id off=>match H id with
    | .box _ cs=>id::(cs.drop off).flatMap (bX H n)
    |_=>[]
  | .fn _ cs=>cs.flatMap (bX H n)
  | .bm _ cs=>cs.flatMap (bX H n)
  |_=>[]
def frozen:bJ->bJ
 | .box _ cs=>.box true cs
 | .row _ s xs=>.row true s xs
 | .map _ ks vs=>.map true ks vs
 | .iter _ ks vs=>.iter true ks vs
 |o=>o
def bP(H:Nat->bJ)(ids:List Nat):List (Nat×bJ):=ids.map λid=>(id,frozen (H id))
def oZ:List (Nat×LV)->Nat->LV
 |[],_=>.junk
 |p::r,j=>if j=p.1 then p.2 else oZ r j
def fN:List (Nat×bJ)->Nat->bJ
 |[],_=>.absent
 |p::r,j=>if j=p.1 then p.2 else fN r j
def bB(l:List (Nat×LV)):Nat->LV:=λj=>oZ l j
def aK(l:List (Nat×bJ)):Nat->bJ:=λj=>fN l j
def dL:List (Nat×Nat)->Nat->Option Nat
 |[],_=>none
 |p::r,i=>if i=p.1 then some p.2 else dL r i
def ren(σ:List (Nat×Nat)):Nat->LV->LV
 |0,_=>.junk
 |n+1,l=>match l with
  | .d x=>.d x
  | .agg cs=>.agg (cs.map (ren σ n))
  | .bx id off=>match dL σ id with|some j=>.bx j off|none=>.junk
  | .rp id k j=>match dL σ id with|some i=>.rp i k j|none=>.junk
  | .ow id k m=>match dL σ id with|some i=>.ow i k m|none=>.junk
  | .oc id k m c=>match dL σ id with|some i=>.oc i k m c|none=>.junk
  | .sb id k m c=>match dL σ id with|some i=>.sb i k m c|none=>.junk
  | .fn f cs=>.fn f (cs.map (ren σ n))
  | .bm f cs=>.bm f (cs.map (ren σ n))
  | .tup cs=>.tup (cs.map (ren σ n))
  | .nl=>.nl
  | .mp id=>match dL σ id with|some j=>.mp j|none=>.junk
  | .it id=>match dL σ id with|some j=>.it j|none=>.junk
  |_=>.junk
def cX(σ:List (Nat×Nat)):bJ->bJ
 | .box fz cs=>.box fz (cs.map (ren σ 8))
 | .know x v=>.know (ren σ 8 x) v
 |o=>o
structure kJ where
 v:LV
 ok:Prop
 up:List (Nat×bJ)
def kJ.fail:kJ:=⟨.junk,False,[]⟩
def kJ.plain(v:LV):kJ:=⟨v,True,[]⟩
def kJ.cond(v:LV)(c:Prop):kJ:=⟨v,c,[]⟩
def FB:DV->DV->Option Bool
 | .int j a,.int k b=>if j=k then some (decide (a=b))else none
 | .bool a,.bool b=>some (a==b)
 | .str a,.str b=>some (a==b)
 |_,_=>none
def fX:List DV->List DV->Option Bool
 |[],[]=>some true
 |a::x,b::y=>match FB a b,fX x y with
  |some p,some q=>some (p&&q)
  |_,_=>none
 |_,_=>none
def gG:TK->DV->Bool
 | .int _,.int _ _=>true
 | .bool,.bool _=>true
 | .str,.str _=>true
 |_,_=>false
def bV:List TK->List DV->Bool
 |[],[]=>true
 |k::ks,d::ds=>gG k d&&bV ks ds
 |_,_=>false
def aR(eqk:List TK)(tb:Bool)(op:BinOp)(x y:LV):kJ:=
 match x,y with
 | .d (.int k a),.d (.int k' b)=>
   match op with
   | .add=>if k=k' then(if k=.i64 then .cond (.d (.int k (a+b))) (-9223372036854775808<=a+b/\a+b<=9223372036854775807)else .plain (.d (.int k (k.wrap (a+b)))))else .fail
   | .sub=>if k=k' then(if k=.i64 then .cond (.d (.int k (a-b))) (-9223372036854775808<=a-b/\a-b<=9223372036854775807)else .plain (.d (.int k (k.wrap (a-b)))))else .fail
   | .mul=>if k=k' then(if k=.i64 then .cond (.d (.int k (a*b))) (-9223372036854775808<=a*b/\a*b<=9223372036854775807)else .plain (.d (.int k (k.wrap (a*b)))))else .fail
   | .quo=>if k=k' then(if k=.i64 then .cond (.d (.int k (a.tdiv b))) (b≠0/\ -9223372036854775808<=a.tdiv b/\a.tdiv b<=9223372036854775807)else .cond (.d (.int k (k.wrap (a.tdiv b)))) (b≠0))else .fail
   | .rem=>if k=k' then .cond (.d (.int k (a.tmod b))) (b≠0)else .fail
   | .lss=>if k=k' then .plain (.d (.bool (decide (a<b))))else .fail
   | .leq=>if k=k' then .plain (.d (.bool (decide (a<=b))))else .fail
   | .gtr=>if k=k' then .plain (.d (.bool (decide (a>b))))else .fail
   | .geq=>if k=k' then .plain (.d (.bool (decide (a>=b))))else .fail
   | .eql=>if k=k' then .plain (.d (.bool (decide (a=b))))else .fail
   | .neq=>if k=k' then .plain (.d (.bool (!decide (a=b))))else .fail
   | .shl=>.cond (.d (.int k (k.wrap (a*2^min b.toNat k.bits)))) (0<=b)
   | .shr=>.cond (.d (.int k (a.fdiv (2^min b.toNat k.bits)))) (0<=b)
   | .and=>if k=k' then .plain (.d (.int k (k.wrap (B3 k.bits a&&&B3 k.bits b).toNat)))else .fail
   | .or=>if k=k' then .plain (.d (.int k (k.wrap (B3 k.bits a|||B3 k.bits b).toNat)))else .fail
   | .xor=>if k=k' then .plain (.d (.int k (k.wrap (B3 k.bits a^^^B3 k.bits b).toNat)))else .fail
   |_=>.fail
 | .d (.str a),.d (.str b)=>
   match op with
   | .add=>.cond (.d (.str (a++b))) (a.length+b.length<=9223372036854775807)
   | .eql=>.plain (.d (.bool (a==b)))
   | .neq=>.plain (.d (.bool (!(a==b))))
   | .lss=>.plain (.d (.bool (Op.bytesLess a b)))
   | .leq=>.plain (.d (.bool (Op.bytesLess a b||a==b)))
   | .gtr=>.plain (.d (.bool (!(Op.bytesLess a b||a==b))))
   | .geq=>.plain (.d (.bool (!Op.bytesLess a b)))
   |_=>.fail
 | .d (.agg a),.d (.agg b)=>
   match op with
   | .eql=>match fX a b with|some c=>.cond (.d (.bool c)) (bV eqk a=true/\a≠[])|none=>.fail
   | .neq=>match fX a b with|some c=>.cond (.d (.bool (!c))) (bV eqk a=true/\a≠[])|none=>.fail
   |_=>.fail
 | .d (.bool a),.d (.bool b)=>
   match op with
   | .eql=>.cond (.d (.bool (a==b))) (tb=true)
   | .neq=>.cond (.d (.bool (!(a==b)))) (tb=true)
   |_=>.fail
 |_,_=>.fail
def xJ(op:BinOp)(x y:LV):kJ:=.fail
def uT:Value->DV
 | .bool b=>.bool b
 | .int k n=>.int k n
 | .string s=>.str s.data.toList
 | .slice none 0 0=>.sl []
 |v=>.val v
def lF(t:cW):DV:=if t.k.agg then .agg (t.zero.map uT)else(t.zero.map uT).getD 0 default
def kL(a b:DV):Option Bool:=match a,b with
 | .agg x,.agg y=>fX x y
 |a,b=>FB a b
def iM(k:DV):List DV->Nat->Option (Option Nat)
 |[],_=>some none
 |x::r,i=>match kL k x with
  |some true=>some (some i)
  |some false=>iM k r (i+1)
  |none=>none
def TK.isStruct:TK->Bool
 | .struct _=>true
 |_=>false
def rX(t:cW)(d:DV):Bool:=match d with
 | .agg ks=>bV t.eqk ks&& !ks.isEmpty&&t.k.isStruct
 |d=>gG t.k d
def rY(H:Nat->bJ):LV->Option (List DV×List DV)
 | .d (.mp ks vs)=>some (ks,vs)
 | .mp id=>match H id with
   | .map _ ks vs=>some (ks,vs)
   |_=>none
 |_=>none
def cZ(T:TypeId->cW)(H:Nat->bJ)(t:TypeId)(x i:LV)(ok:Bool):kJ:=
 match(T t).k,rY H x,i with
 | .map kt et,some (ks,vs),.d k=>match iM k ks 0 with
   |some (some j)=>.cond (if ok then .tup [.d (vs.getD j default),.d (.bool true)]else .d (vs.getD j default)) (rX (T kt) k=true)
   |some none=>.cond (if ok then .tup [.d (lF (T et)),.d (.bool false)]else .d (lF (T et))) (rX (T kt) k=true/\(T et).k.isNone=false)
   |none=>.fail
 |_,_,_=>.fail
def cM(T:TypeId->cW)(H:Nat->bJ)(t:TypeId)(m k x:LV):kJ:=
 match(T t).k,m,k,x with
 | .map kt _,.mp id,.d k,.d v=>match H id with
   | .map false ks vs=>match iM k ks 0 with
     |some (some j)=>⟨.junk,rX (T kt) k=true,[(id,.map false ks (vs.set j v))]⟩
     |some none=>⟨.junk,rX (T kt) k=true,[(id,.map false (ks++[k]) (vs++[v]))]⟩
     |none=>.fail
   |_=>.fail
 |_,_,_,_=>.fail
def iB(T:TypeId->cW)(H:Nat->bJ)(t:TypeId)(m k x:LV):kJ:=
 match x with
 | .d v=>cM T H t m k (.d v)
 |x=>match close H 8 x with
  |some v=>⟨(cM T (cD H (bP H (bX H 8 x))) t m k (.d v)).v,(cM T (cD H (bP H (bX H 8 x))) t m k (.d v)).ok,(cM T (cD H (bP H (bX H 8 x))) t m k (.d v)).up++bP H (bX H 8 x)⟩
  |none=>.fail
def pU(T:TypeId->cW)(H:Nat->bJ)(t:TypeId)(m k:LV):kJ:=.fail
def lG(H:Nat->bJ)(dst:Nat):kJ:=⟨.mp dst,H dst=.absent,[(dst,.map false [] [])]⟩
def pO(H:Nat->bJ)(dst:Nat):LV->kJ
 | .d (.mp ks vs)=>⟨.it dst,H dst=.absent,[(dst,.iter false ks vs)]⟩
 |_=>.fail
def bK(op:UnOp)(x:LV):kJ:=
 match op,x with
 | .not,.d (.bool b)=>.plain (.d (.bool (!b)))
 | .xor,.d (.int k n)=>.plain (.d (.int k (k.wrap (B3 k.bits (if k.signed then -1 else k.max)^^^B3 k.bits n).toNat)))
 | .neg,.d (.int k n)=>if k=.i64 then .cond (.d (.int k (0-n))) (-9223372036854775808<=0-n/\0-n<=9223372036854775807)else .plain (.d (.int k (k.wrap (0-n))))
 |_,_=>.fail
def Ql:LV->Bool
 | .when _ (.d (.bool x))=>x
 | .d (.bool x)=>x
 |_=>false
def bok:LV->Bool
 | .when e (.d (.bool _))=>e
 | .d (.bool _)=>true
 |_=>false
def nV(c a b:LV):kJ:=
 match c with
 | .d (.bool p)=>.cond (.d (.bool (bif p then Ql a else Ql b))) ((p=true->bok a=true)/\(p=false->bok b=true))
 |_=>.fail
def FC(agg:Bool)(s off:Nat)(cs:List LV):LV:=if agg then mkAgg ((cs.drop off).take s)else cs.getD off .junk
def Dk(agg:Bool)(s off:Nat)(cs:List DV):DV:=if agg then .agg ((cs.drop off).take s)else cs.getD off default
def nW(H:Nat->bJ)(t:cW)(x:LV):kJ:=
 match x with
 | .bx id off=>match H id with
   | .box _ cs=>.cond (FC t.k.agg t.size off cs) (off+t.size<=cs.length/\(t.k.agg=false->t.size=1))
   |_=>.fail
 | .d (.ro cs)=>.cond (.d (Dk t.k.agg t.size 0 cs)) (t.size<=cs.length/\(t.k.agg=false->t.size=1))
 | .rp id k j=>match H id with
   | .row _ _ xs=>.cond (.d (Dk t.k.agg t.size j (aQ (xs.getD k default)))) (k<xs.length/\j+t.size<=(aQ (xs.getD k default)).length/\(t.k.agg=false->t.size=1))
   |_=>.fail
 |_=>.fail
def bE{α:Type}(off:Nat)(cs new:List α):List α:=cs.take off++new++cs.drop (off+new.length)
def iQ(H:Nat->bJ)(t:cW)(x y:LV):kJ:=
 match x with
 | .bx id off=>match H id with
   | .box false cs=>⟨.junk,off+t.size<=cs.length/\(dT y).length=t.size/\iX H y=true,[(id,.box false (bE off cs (dT y)))]⟩
   |_=>.fail
 | .rp id k j=>match H id with
   | .row false s xs=>match close H 8 y with
     |some z=>if j=0/\t.size=s then⟨.junk,k<xs.length/\(aQ z).length=s/\id∉bX H 8 y,(id,.row false s (xs.set k z))::bP H (bX H 8 y)⟩
       else⟨.junk,k<xs.length/\j+t.size<=s/\(aQ z).length=t.size/\1<s/\id∉bX H 8 y,(id,.row false s (xs.set k (.agg (bE j (aQ (xs.getD k default)) (aQ z)))))::bP H (bX H 8 y)⟩
     |none=>.fail
   |_=>.fail
 |_=>.fail
def NW(i:Nat):List (Nat×LV)->Option LV
 |[]=>none
 |p::r=>if p.1=i then some p.2 else NW i r
def Dl(fs:List (Nat×TypeId))(T:TypeId->cW):List LV->List (Nat×LV)->Option (List LV)
 |cs,[]=>some cs
 |cs,(i,x)::r=>match fs[i]? with
  |none=>none
  |some (off,ty)=>if(dT x).length=(T ty).size/\off+(T ty).size<=cs.length then Dl fs T (bE off cs (dT x)) r else none
def rZ(T:TypeId->cW)(H:Nat->bJ)(t:TypeId)(ps:List (Nat×LV)):kJ:=
 match(T t).k with
 | .struct fs=>match Dl fs T ((T t).zero.map pC) ps with
   |some cs=>.cond (mkAgg cs) (∀p∈ps,iX H p.2=true)
   |none=>.fail
 | .arr n e=>match Dl ((D8 n).map λi=>(i*(T e).size,e)) T ((T t).zero.map pC) ps with
   |some cs=>.cond (mkAgg cs) (∀p∈ps,iX H p.2=true)
   |none=>.fail
 |_=>.fail
def eZ(T:TypeId->cW)(H:Nat->bJ)(dst:Nat)(t:TypeId)(n:Nat)(ps:List (Nat×LV)):kJ:=
 match(T t).k with
 | .slice e=>match cS (ps.map λp=>close H 8 p.2)with
   |some xs=>⟨.ow dst 0 n,H dst=.absent/\ps.map (·.1)=D8 n/\0<(T e).size/\(∀x∈xs,(aQ x).length=(T e).size)/\n*(T e).size<=16777216,
     (dst,.row false (T e).size xs)::bP H (ps.flatMap λp=>bX H 8 p.2)⟩
   |none=>.fail
 |_=>.fail
def eU(T:TypeId->cW)(H:Nat->bJ)(dst:Nat)(t:TypeId)(n:Nat)(ps:List (Nat×LV)):kJ:=
 match(T t).k with
 | .slice e=>match cS (ps.map λp=>close H 8 p.2)with
   |some xs=>⟨.oc dst 0 n n,H dst=.absent/\ps.map (·.1)=D8 n/\0<(T e).size/\(∀x∈xs,(aQ x).length=(T e).size)/\n*(T e).size<=16777216,
     (dst,.row false (T e).size xs)::bP H (ps.flatMap λp=>bX H 8 p.2)⟩
   |none=>.fail
 |_=>.fail
def lH(T:TypeId->cW)(H:Nat->bJ)(s:TypeId)(x:LV)(f:Nat):kJ:=
 match(T s).k with
 | .struct fs=>match fs[f]? with
   |some (off,ty)=>match x with
    | .bx id o=>.cond (.bx id (o+off)) ((T ty).size≠0/\(H id).live=true)
    | .rp id k j=>.cond (.rp id k (j+off)) ((T ty).size≠0/\(H id).live=true)
    | .d (.ro cs)=>.cond (.d (.ro (cs.drop off))) ((T ty).size≠0)
    |_=>.fail
   |none=>.fail
 |_=>.fail
def Ai(T:TypeId->cW)(s:TypeId)(x:LV)(f:Nat):kJ:=
 match(T s).k with
 | .struct fs=>match fs[f]? with
   |some (off,ty)=>match x with
    | .d (.agg cs)=>.cond (.d (Dk (T ty).k.agg (T ty).size off cs)) (off+(T ty).size<=cs.length/\((T ty).k.agg=false->(T ty).size=1))
    | .agg cs=>.cond (FC (T ty).k.agg (T ty).size off cs) (off+(T ty).size<=cs.length/\((T ty).k.agg=false->(T ty).size=1))
    |_=>.fail
   |none=>.fail
 |_=>.fail
def fO(T:TypeId->cW)(H:Nat->bJ)(t:TypeId)(x i:LV):kJ:=
 match(T t).k,x,i with
 | .slice e,.d (.sl xs),.d (.int _ i)=>.cond (.d (.ro (aQ (xs.getD i.toNat default)))) (0<=i/\i<xs.length/\(aQ (xs.getD i.toNat default)).length=(T e).size)
 | .slice e,.ow id k n,.d (.int _ i)=>match H id with
   | .row _ s _=>.cond (.rp id (k+i.toNat) 0) (0<=i/\i<n/\s=(T e).size)
   |_=>.fail
 | .slice e,.oc id k n _,.d (.int _ i)=>match H id with
   | .row _ s _=>.cond (.rp id (k+i.toNat) 0) (0<=i/\i<n/\s=(T e).size)
   |_=>.fail
 | .slice e,.sb id k n _,.d (.int _ i)=>.cond (.bx id (k+i.toNat)) (0<=i/\i<n/\(H id).live=true/\(T e).size=1)
 | .arr n e,.bx id off,.d (.int _ i)=>.cond (.bx id (off+i.toNat*(T e).size)) (0<=i/\i<n/\(H id).live=true)
 | .arr n e,.rp id k j,.d (.int _ i)=>.cond (.rp id k (j+i.toNat*(T e).size)) (0<=i/\i<n/\(H id).live=true)
 | .arr n e,.d (.ro cs),.d (.int _ i)=>.cond (.d (.ro (cs.drop (i.toNat*(T e).size)))) (0<=i/\i<n)
 |_,_,_=>.fail
def aU(T:TypeId->cW)(t:TypeId)(x i:LV):kJ:=
 match(T t).k,x,i with
 | .str,.d (.str s),.d (.int _ i)=>.cond (.d (.int .u8 (s.getD i.toNat 0).toNat)) (0<=i/\i<s.length)
 | .arr n e,.d (.agg cs),.d (.int _ i)=>.cond (.d (Dk (T e).k.agg (T e).size (i.toNat*(T e).size) cs)) (0<=i/\i<n/\i.toNat*(T e).size+(T e).size<=cs.length/\((T e).k.agg=false->(T e).size=1))
 |_,_,_=>.fail
def kU:Nat->Nat->List DV->List DV
 |0,_,_=>[]
 |n+1,s,cs=>.agg (cs.take s)::kU n s (cs.drop s)
def iY(d:Int):Option LV->Option Int
 |none=>some d
 |some (.d (.int _ i))=>some i
 |_=>none
def lI(T:TypeId->cW)(H:Nat->bJ)(t:TypeId)(x:LV)(lo hi mx:Option LV):kJ:=
 match(T t).k,x with
 | .str,.d (.str s)=>match iY 0 lo,iY s.length hi,mx with
   |some l,some h,none=>.cond (.d (.str ((s.take h.toNat).drop l.toNat))) (0<=l/\l<=h/\h<=s.length)
   |_,_,_=>.fail
 | .slice e,.d (.sl xs)=>match iY 0 lo,iY xs.length hi,mx with
   |some l,some h,none=>.cond (.d (.sl ((xs.take h.toNat).drop l.toNat))) (0<=l/\l<=h/\h<=xs.length/\∀x∈xs,(aQ x).length=(T e).size)
   |some l,some h,some (.d (.int _ m))=>.cond .nl (l=0/\h=0/\m=0)
   |_,_,_=>.fail
 | .slice e,.ow id k n=>match H id with
   | .row _ s xs=>match iY 0 lo,iY n hi,mx with
     |some l,some h,none=>.cond (.ow id (k+l.toNat) (h-l).toNat) (0<=l/\l<=h/\(h<=n\/k+h<=xs.length)/\s=(T e).size)
     |some l,some h,some (.d (.int _ m))=>.cond .nl (l=0/\h=0/\m=0)
     |_,_,_=>.fail
   |_=>.fail
 | .slice _,.nl=>match iY 0 lo,iY 0 hi,mx with
   |some l,some h,none=>.cond .nl (l=0/\h=0)
   |_,_,_=>.fail
 | .slice e,.oc id k n c=>match H id with
   | .row _ s _=>match iY 0 lo,iY n hi,mx with
     |some l,some h,none=>.cond (.oc id (k+l.toNat) (h-l).toNat (c-l.toNat)) (0<=l/\l<=h/\h<=c/\s=(T e).size)
     |_,_,_=>.fail
   |_=>.fail
 | .slice e,.sb id k n c=>match iY 0 lo,iY n hi,mx with
   |some l,some h,none=>.cond (.sb id (k+l.toNat) (h-l).toNat (c-l.toNat)) (0<=l/\l<=h/\h<=c/\(H id).live=true/\(T e).size=1)
   |_,_,_=>.fail
 | .arr n e,.bx id off=>match iY 0 lo,iY n hi,mx with
   |some l,some h,none=>.cond (.sb id (off+l.toNat) (h-l).toNat (n-l.toNat)) (0<=l/\l<=h/\h<=n/\n<=1000/\(H id).live=true/\(T e).size=1/\(T e).k.isNone=false)
   |_,_,_=>.fail
 | .arr n e,.d (.ro cs)=>match lo,hi,mx with
   |none,none,none=>if(T e).k.agg then .cond (.d (.sl (kU n (T e).size cs))) (0<n/\n<=1000/\0<(T e).size/\n*(T e).size<=cs.length/\(T e).k.isNone=false)
    else .cond (.d (.sl (cs.take n))) (0<n/\n<=1000/\(T e).size=1/\n<=cs.length/\(T e).k.isNone=false/\∀x∈cs.take n,(aQ x).length=1)
   |none,some (.d (.int _ h)),none=>if(T e).k.agg then .fail
    else .cond (.d (.sl (cs.take h.toNat))) (0<h/\h<=n/\n<=1000/\(T e).size=1/\n<=cs.length/\(T e).k.isNone=false/\∀x∈cs.take n,(aQ x).length=1)
   |_,_,_=>.fail
 |_,_=>.fail
def jV(H:Nat->bJ):LV->Option (List DV)
 | .d (.sl xs)=>some xs
 | .d (.str s)=>some (s.map λb=>.int .u8 b.toNat)
 | .nl=>some []
 | .ow id k n=>match H id with
   | .row _ _ xs=>some ((xs.drop k).take n)
   |_=>none
 | .oc id k n _=>match H id with
   | .row _ _ xs=>some ((xs.drop k).take n)
   |_=>none
 |_=>none
def lJ(T:TypeId->cW)(H:Nat->bJ)(dst:Nat)(t:TypeId)(s x:LV):kJ:=.fail
def lK(T:TypeId->cW)(H:Nat->bJ)(dst:Nat)(t:TypeId)(lo c:Nat)(s x:LV):kJ:=.fail
def nX(T:TypeId->cW)(H:Nat->bJ)(dst:Nat)(t:TypeId)(lo c:Nat)(v:Value)(s x:LV):kJ:=.fail
def nY(T:TypeId->cW)(H:Nat->bJ)(dst:Nat)(t:TypeId)(kid:Nat)(s x:LV):kJ:=.fail
def lL(T:TypeId->cW)(H:Nat->bJ)(dst:Nat)(t:TypeId)(s x:LV):kJ:=.fail
def jE(T:TypeId->cW)(H:Nat->bJ)(dst:Nat)(t:TypeId)(s x:LV):kJ:=
 match(T t).k,jV H x with
 | .slice e,some ys=>match s with
   | .ow id k n=>match H id with
     | .row false sz xs=>⟨.ow dst 0 (n+ys.length),H dst=.absent/\k=0/\sz=(T e).size/\(∀y∈ys,(aQ y).length=sz)/\(n+ys.length)*(T e).bytes<=140737488355328/\n+ys.length<=140737488355328,
         [(dst,.row false sz (xs.take n++ys)),(id,.dead)]⟩
     |_=>.fail
   | .nl=>⟨.ow dst 0 ys.length,H dst=.absent/\0<(T e).size/\(∀y∈ys,(aQ y).length=(T e).size)/\ys.length*(T e).bytes<=140737488355328/\ys.length<=140737488355328,[(dst,.row false (T e).size ys)]⟩
   |_=>.fail
 |_,_=>.fail
def fY(T:TypeId->cW)(H:Nat->bJ)(t:TypeId)(s x:LV):kJ:=
 match(T t).k,jV H x,s with
 | .slice e,some ys,.ow id k n=>match H id with
   | .row false sz xs=>⟨.ow id k (n+ys.length),sz=(T e).size/\(∀y∈ys,(aQ y).length=sz)/\k+n+ys.length<=xs.length,[(id,.row false sz (bE (k+n) xs ys))]⟩
   |_=>.fail
 |_,_,_=>.fail
def xK(T:TypeId->cW)(H:Nat->bJ)(t:TypeId)(x:LV)(lo hi mx:Option LV):kJ:=.fail
def lM(T:TypeId->cW)(H:Nat->bJ)(t:TypeId)(x:LV):kJ:=
 match(T t).k,x with
 | .slice e,.ow id k n=>match H id with
   | .row false sz xs=>⟨.tup [],sz=(T e).size/\k+n<=xs.length,[(id,.row false sz (bE k xs (B1 n (lF (T e)))))]⟩
   |_=>.fail
 | .slice e,.oc id k n _=>match H id with
   | .row false sz xs=>⟨.tup [],sz=(T e).size/\k+n<=xs.length,[(id,.row false sz (bE k xs (B1 n (lF (T e)))))]⟩
   |_=>.fail
 |_,_=>.fail
def sD(T:TypeId->cW)(H:Nat->bJ)(t:TypeId)(d s:LV):kJ:=.fail
def YX(n:Nat):LV->LV
 | .oc j k m c=>.oc j k (min m n) c
 |x=>x
def pP(T:TypeId->cW)(H:Nat->bJ)(t:TypeId)(d s:LV):kJ:=.fail
def tB(s:List UInt8):List LV:=s.map λb=>.d (.int .u8 b.toNat)
def fP(T:TypeId->cW)(H:Nat->bJ)(t:TypeId)(d s:LV):kJ:=
 match(T t).k,d,s with
 | .slice e,.sb id k n _,.d (.str s)=>match H id with
   | .box false cs=>⟨.d (.int .i64 (min s.length n:Nat)),0<n/\(T e).size=1/\k+n<=cs.length,[(id,.box false (bE k cs (tB (s.take n))))]⟩
   |_=>.fail
 |_,_,_=>.fail
def Aj(T:TypeId->cW)(H:Nat->bJ)(dst:Nat)(t:TypeId)(n c:LV):kJ:=.fail
def uU(op:BinOp)(x y:LV):kJ:=
 match x,y with
 | .d (.int k a),.d (.int k' b)=>match op with
   | .add=>.cond (.d (.int k (k.wrap (a+b)))) (k=k')
   | .sub=>.cond (.d (.int k (k.wrap (a-b)))) (k=k')
   | .mul=>.cond (.d (.int k (k.wrap (a*b)))) (k=k')
   |_=>.fail
 |_,_=>.fail
def sE(T:TypeId->cW)(H:Nat->bJ)(t:TypeId)(x:LV):kJ:=.fail
def IB(H:Nat->bJ):LV->Option Nat
 | .d (.sl xs)=>some xs.length
 | .nl=>some 0
 | .ow id _ n=>if(H id).live then some n else none
 |_=>none
def xL(T:TypeId->cW)(H:Nat->bJ)(t:TypeId)(lo c:Nat)(x:LV):kJ:=.fail
def Dm:Operand->Bool
 | .const (.slice none 0 0)=>true
 |_=>false
def nQ(T:TypeId->cW)(H:Nat->bJ)(t:TypeId)(e b:Bool)(op:BinOp)(x:LV):kJ:=
 match(T t).k,op,IB H x with
 | .slice _,.eql,some n=>.cond (.d (.bool b)) (n=0->e=true)
 | .slice _,.neq,some n=>.cond (.d (.bool (!b))) (n=0->e=true)
 |_,_,_=>.fail
def qS(T:TypeId->cW)(H:Nat->bJ)(t:TypeId)(x:LV):kJ:=
 match(T t).k,x with
 | .str,.d (.str s)=>.plain (.d (.int .i64 s.length))
 | .slice _,.d (.sl xs)=>.plain (.d (.int .i64 xs.length))
 | .slice _,.ow id _ n=>.cond (.d (.int .i64 n)) ((H id).live=true)
 | .slice _,.oc id _ n _=>.cond (.d (.int .i64 n)) ((H id).live=true)
 | .slice _,.sb id _ n _=>.cond (.d (.int .i64 n)) ((H id).live=true)
 | .slice _,.nl=>.plain (.d (.int .i64 0))
 | .arr n _,_=>.plain (.d (.int .i64 n))
 | .map _ _,.d (.mp ks _)=>.plain (.d (.int .i64 ks.length))
 | .map _ _,.mp id=>match H id with
   | .map _ ks _=>.plain (.d (.int .i64 ks.length))
   |_=>.fail
 |_,_=>.fail
def xM(mx:Bool):List LV->kJ
 |[.d (.int k a),.d (.int k' b)]=>if k=k' then .plain (.d (.int k (if mx then(if b>a then b else a)else(if b<a then b else a))))else .fail
 |_=>.fail
def bM(x:LV)(i:Nat):kJ:=
 match x with
 | .tup vs=>.cond (vs.getD i .junk) (i<vs.length)
 |_=>.fail
def rN(H:Nat->bJ):LV->Option (List DV)
 | .d (.str _)=>none
 |l=>jV H l
def rO:DV->UInt8
 | .int _ n=>UInt8.ofNat n.toNat
 |_=>0
def aO(T:TypeId->cW)(H:Nat->bJ)(s t:TypeId)(x:LV):kJ:=
 match(T s).k,(T t).k,x with
 | .int _,.int k,.d (.int _ n)=>.plain (.d (.int k (k.wrap n)))
 | .str,.str,.d (.str s)=>.plain (.d (.str s))
 | .str,.slice e,.d (.str s)=>match(T e).k with
   | .int .u8=>.cond (.d (.sl (s.map λb=>.int .u8 b.toNat))) (s.length<=1099511627776)
   |_=>.fail
 | .slice e,.str,x=>match(T e).k,rN H x with
   | .int .u8,some ys=>.cond (.d (.str (ys.map rO))) (∀y∈ys,∃n,y=.int .u8 n)
   |_,_=>.fail
 |_,_,_=>.fail
inductive RV where
 |d (x:DV)
 |own (size:Nat) (xs:List DV)
 |tup (vs:List RV)
 deriving Inhabited
structure Qm where
 v:RV
 fresh:Bool
def IC(d:Nat):RV->LV
 | .d x=>.d x
 | .own _ xs=>.ow d 0 xs.length
 | .tup _=>.junk
def mR(d:Nat):RV->List (Nat×bJ)
 | .own s xs=>[(d,.row false s xs)]
 |_=>[]
def pV:Nat->List RV->List LV
 |_,[]=>[]
 |d,v::r=>IC d v::pV (d+1000) r
def cU:Nat->List RV->List (Nat×bJ)
 |_,[]=>[]
 |d,v::r=>mR d v++cU (d+1000) r
open Go.RowKit
def Bi(w w':World)(E:Nat->Prop)(B:Option Nat):RV->Value->Prop
 | .d x,v=>RD w' E x v
 | .own s xs,v=>0<s/\(∀x∈xs,(aQ x).length=s)/\((B=none/\xs=[]/\∃a,v=.slice a 0 0)\/
     ∃b c cur e,B=some b/\v=.slice (some ⟨b,0,none⟩) xs.length c/\w.heap.size<=b/\w'.heap[b]? =some (.cells cur e (0,0))/\xs.length<=c/\c<=maxLen/\c*s=cur.size/\
      ∀(i:Nat) (d:DV) (v:Value),(bZ xs)[i]? =some d->cur[i]? =some v->v.oneCell'=true/\RD w' E d v)
 | .tup _,_=>False
def ID(w w':World)(E:Nat->Prop)(r:RV)(v:Value):Prop:=
 match r with
 | .tup rs=>∃(vs:List Value) (B:Nat->Option Nat),v=.tuple vs.toArray/\vs.length=rs.length/\(∀i j b,B i=some b->B j=some b->i=j)/\
     ∀(i:Nat) (r:RV) (v:Value),rs[i]? =some r->vs[i]? =some v->Bi w w' (λk=>E k\/∃j,B j=some k) (B i) r v
 |r=>∃B:Option Nat,Bi w w' (λk=>E k\/B=some k) B r v
def pW(P:Program)(f:FuncId):Prop:=∃fn,P.funcs[f]? =some fn/\(fn.name== "runtime.NumGoroutine")=false/\fn.body.isSome=true
def Ok(P:Program)(f:FuncId)(args:List DV)(r:Qm):Prop:=
 pW P f/\∀(w:World) (X:Nat->Prop) (vs:List Value),WZ w X->Lq w X args vs->
  Calls P f vs.toArray w λe w'=>∃v,e=.returned v/\Ah w.heap.size w w'/\ID w w' (λk=>X k\/(r.fresh=true/\k<w.heap.size)) r.v v
def YY(P:Program)(f:FuncId)(args:List DV)(Rel:Qm->Prop):Prop:=
 pW P f/\∀(w:World) (X:Nat->Prop) (vs:List Value),WZ w X->Lq w X args vs->
  Calls P f vs.toArray w λe w'=>∃v r,Rel r/\e=.returned v/\Ah w.heap.size w w'/\ID w w' (λk=>X k\/(r.fresh=true/\k<w.heap.size)) r.v v
theorem Ok.toR{P:Program}{f:FuncId}{args:List DV}{r:Qm}(h:Ok P f args r):YY P f args (λg=>g=r):=
 ⟨h.1,λw X i d e=>(h.2 w X i d e).mono λ_ _ ⟨v,a,b,c⟩=>⟨v,r,rfl,a,b,c⟩⟩
def eM:LV->Option (FuncId×List LV)
 | .d (.fn f cs)=>some (f,cs.map .d)
 | .fn f cs=>some (f,cs)
 | .d (.bm f _)=>some (f,[])
 | .bm f _=>some (f,[])
 |_=>none
def dA:LV->List LV
 | .d (.bm _ cs)=>cs.map .d
 | .bm _ cs=>cs
 |_=>[]
def Dn(d:Nat):RV->LV
 | .tup vs=>.tup (pV d vs)
 |v=>IC d v
def iC(d:Nat):RV->List (Nat×bJ)
 | .tup vs=>cU d vs
 |v=>mR d v
def mH(P:Program)(f:FuncId)(args:List LV)(h:List (Nat×bJ))(fin:List (Nat×bJ))(ret:LV):Prop:=
 pW P f/\∀(w:World) (X:Nat->Prop) (β:Nat->Option Nat) (vs:List Value),dV ⟨w,β,aK h,h.map (·.1),false⟩ X (aK h) β w->vs.length=args.length->
  (∀(i:Nat) (c:LV) (v:Value),args[i]? =some c->vs[i]? =some v->R w (Ex X β (aK h)) β (aK h) c v)->
  Calls P f vs.toArray w λe w'=>∃v β',e=.returned v/\dV ⟨w,β,aK h,h.map (·.1),false⟩ X (aK fin) β' w'/\R w' (Ex X β' (aK fin)) β' (aK fin) ret v
def Xa(P:Program)(f:FuncId)(args:List LV)(h:List (Nat×bJ))(Rel:List (Nat×bJ)->LV->Prop):Prop:=
 pW P f/\∀(w:World) (X:Nat->Prop) (β:Nat->Option Nat) (vs:List Value),dV ⟨w,β,aK h,h.map (·.1),false⟩ X (aK h) β w->vs.length=args.length->
  (∀(i:Nat) (c:LV) (v:Value),args[i]? =some c->vs[i]? =some v->R w (Ex X β (aK h)) β (aK h) c v)->
  Calls P f vs.toArray w λe w'=>∃v β' fin ret,Rel fin ret/\e=.returned v/\dV ⟨w,β,aK h,h.map (·.1),false⟩ X (aK fin) β' w'/\R w' (Ex X β' (aK fin)) β' (aK fin) ret v
theorem mH.toR{P:Program}{f:FuncId}{args:List LV}{h a:List (Nat×bJ)}{b:LV}(k:mH P f args h a b):Xa P f args h (λc d=>c=a/\d=b):=
 ⟨k.1,λw X β n m j l=>(k.2 w X β n m j l).mono λ_ _ ⟨v,o,e,g,i⟩=>⟨v,o,a,b,⟨rfl,rfl⟩,e,g,i⟩⟩
structure Gen where
 σ:List (Nat×Nat)
 new:List (Nat×Nat)
 shut:List Nat
 fin:List (Nat×bJ)
 ret:LV
inductive jU where
 |plain (r:Qm)
 |gen (g:Gen)
 |inp
 |wrap
 |cap (lo c:Nat)
 |app (lo c:Nat)
 |appv (lo c:Nat) (v:Value)
 |tie (kid:Nat)
 |nil (e b:Bool)
 |rel (Rel:Qm->Prop) (fr:Bool) (r:Qm)
 |genR (g:Gen) (Rel:List (Nat×bJ)->LV->Prop)
def xN:Option jU->Option jU->Prop
 |some (.cap lo _),r'=>∃c,lo<=c/\c<=maxLen/\r'=some (.cap lo c)
 |some (.app lo _),r'=>∃c,lo<=c/\c<=maxLen/\r'=some (.app lo c)
 |some (.appv lo _ _),r'=>∃c v,lo<=c/\c<=maxLen/\r'=some (.appv lo c v)
 |some (.nil e _),r'=>∃b,(b=true->e=true)/\r'=some (.nil e b)
 |some (.rel Rel fr _),r'=>∃r,Rel r/\r.fresh=fr/\r'=some (.rel Rel fr r)
 |some (.genR g Rel),r'=>∃fin ret,Rel fin ret/\r'=some (.genR {g with fin:=fin,ret:=ret} Rel)
 |r,r'=>r'=r
def BS:Option jU->Bool
 |some .inp=>true
 |_=>false
def gO(σ new:List (Nat×Nat)):List (Nat×Nat):=(σ.map λp=>(p.2,p.1))++new
def lN(H:Nat->bJ)(σ:List (Nat×Nat))(shut:List Nat):Nat->List LV->Option (List LV)
 |_,[]=>some []
 |i,l::r=>match lN H σ shut (i+1) r with
  |none=>none
  |some r'=>if shut.contains i then(close H 8 l).map (λx=>.d x::r')else some (ren σ 8 l::r')
def lQ(H:Nat->bJ)(shut:List Nat):Nat->List LV->List Nat
 |_,[]=>[]
 |i,l::r=>(if shut.contains i then bX H 8 l else [])++lQ H shut (i+1) r
def dB(P:Program)(H:Nat->bJ)(r:Option jU)(dst:Nat)(callee:LV)(args:List LV):kJ:=
 match eM callee,r with
 |some (f,caps),some (.plain r)=>match cS ((args++caps).map (close H 8))with
  |some az=>⟨Dn dst r.v,Ok P f az r/\(∀p∈iC dst r.v,H p.1=.absent),
    iC dst r.v++(if r.fresh then []else bP H ((args++caps).flatMap (bX H 8)))⟩
  |none=>.fail
 |some (f,caps),some (.gen g)=>match lN H g.σ g.shut 0 (args++caps)with
  |some az=>⟨ren (gO g.σ g.new) 8 g.ret,
    mH P f az (g.σ.map λp=>(p.2,cX g.σ (H p.1))) g.fin g.ret/\(∀p∈g.σ,(H p.1).live=true)/\((gO g.σ g.new).map (·.1)).Nodup/\((gO g.σ g.new).map (·.2)).Nodup/\
     (∀p∈g.new,H p.2=.absent/\p.2%1000=dst%1000/\dst<=p.2)/\∀id∈lQ H g.shut 0 (args++caps),id∉g.σ.map (·.1),
    ((gO g.σ g.new).map λp=>(p.2,cX (gO g.σ g.new) (aK g.fin p.1)))++bP H (lQ H g.shut 0 (args++caps))⟩
  |none=>.fail
 |some (f,caps),some (.rel Rel fr r)=>match cS ((args++caps).map (close H 8))with
  |some az=>⟨Dn dst r.v,YY P f az Rel/\(∀q,Rel q->q.fresh=fr)/\(∀p∈iC dst r.v,H p.1=.absent),
    iC dst r.v++(if fr then []else bP H ((args++caps).flatMap (bX H 8)))⟩
  |none=>.fail
 |some (f,caps),some (.genR g Rel)=>match lN H g.σ g.shut 0 (args++caps)with
  |some az=>⟨ren (gO g.σ g.new) 8 g.ret,
    Xa P f az (g.σ.map λp=>(p.2,cX g.σ (H p.1))) Rel/\(∀p∈g.σ,(H p.1).live=true)/\((gO g.σ g.new).map (·.1)).Nodup/\((gO g.σ g.new).map (·.2)).Nodup/\
     (∀p∈g.new,H p.2=.absent/\p.2%1000=dst%1000/\dst<=p.2)/\∀id∈lQ H g.shut 0 (args++caps),id∉g.σ.map (·.1),
    ((gO g.σ g.new).map λp=>(p.2,cX (gO g.σ g.new) (aK g.fin p.1)))++bP H (lQ H g.shut 0 (args++caps))⟩
  |none=>.fail
 |_,_=>.fail
def lR(T:TypeId->cW)(H:Nat->bJ)(t:TypeId)(x:LV):kJ:=
 match(T t).k,x with
 | .arr n e,.d (.sl xs)=>.cond (.d (.ro (bZ (xs.take n)))) (0<n/\n<=xs.length/\∀x∈xs,(aQ x).length=(T e).size)
 | .arr n _,.sb id k m _=>.cond (.bx id k) (0<n/\n<=m/\(H id).live=true)
 |_,_=>.fail
def pQ(P:Program)(T:TypeId->cW)(H:Nat->bJ)(f:LV)(args:List LV):kJ:=.fail
def cC(P:Program)(T:TypeId->cW)(H:Nat->bJ)(g:Operand->LV)(r:Option jU)(o:Oper):kJ:=
 let dst:=o.dst.getD 0
 match o.op with
 | .move x=>.plain (g x)
 | .assign x=>match g x,(T o.type).k,H dst with
   | .nl,.slice e,.absent=>⟨.ow dst 0 0,0<(T e).size,[(dst,.row false (T e).size [])]⟩
   |y,_,_=>.plain y
 | .pick c a b=>nV (g c) (g a) (g b)
 | .alloc t=>⟨.bx dst 0,H dst=.absent/\(T t).k.isNone=false,[(dst,.box false ((T t).zero.map pC))]⟩
 | .box _ x=>⟨.bx dst 0,H dst=.absent/\iX H (g x)=true,[(dst,.box false (dT (g x)))]⟩
 | .build t ps=>rZ T H t (ps.toList.map λp=>(p.1,g p.2))
 | .buildSlice t n ps=>if BS r then eU T H dst t n (ps.toList.map λp=>(p.1,g p.2))else eZ T H dst t n (ps.toList.map λp=>(p.1,g p.2))
 | .load t a=>if(T t).k.isNone then .fail else nW H (T t) (g a)
 | .store t a x=>if(T t).k.isNone then .fail else iQ H (T t) (g a) (g x)
 | .nilCheck x=>match g x with
   | .bx id off=>.cond (.bx id off) ((H id).live=true)
   | .rp id k j=>.cond (.rp id k j) ((H id).live=true)
   | .d (.ro cs)=>.plain (.d (.ro cs))
   | .d (.fn f cs)=>.plain (.d (.fn f cs))
   | .fn f cs=>.plain (.fn f cs)
   |_=>.fail
 | .binOp op t x y _=>match r with
   |some .wrap=>uU op (g x) (g y)
   |some (.nil e b)=>if Dm y then nQ T H t e b op (g x)else .fail
   |_=>if(T t).k.isPtr then xJ op (g x) (g y)else aR (T t).eqk (T t).k.isBool op (g x) (g y)
 | .unOp op _ x=>bK op (g x)
 | .convert s t x=>aO T H s t (g x)
 | .makeFunc (.func f) first cs=>if first.size=0 then .plain (.fn f (cs.toList.map g))else .cond (.bm f (first.toList.map g)) (cs.size=0)
 | .sliceToArrayPointer t x=>lR T H t (g x)
 | .slice t x lo hi mx=>if mx.isSome&& !hi.isSome then .fail else if BS r&&mx.isSome then xK T H t (g x) (lo.map g) (hi.map g) (mx.map g)else lI T H t (g x) (lo.map g) (hi.map g) (mx.map g)
 | .fieldAddr s x f=>lH T H s (g x) f
 | .field s x f=>Ai T s (g x) f
 | .indexAddr t x i=>fO T H t (g x) (g i)
 | .index t x i=>aU T t (g x) (g i)
 | .extract x i=>bM (g x) i
 | .makeSlice t n c=>Aj T H dst t (g n) (g c)
 | .makeMap _ none=>lG H dst
 | .lookup t x i ok=>cZ T H t (g x) (g i) ok
 | .mapUpdate t m k x=>iB T H t (g m) (g k) (g x)
 | .insert t m k x=>iB T H t (g m) (g k) (g x)
 | .range t x=>match(T t).k with
   | .map _ _=>pO H dst (g x)
   |_=>.fail
 | .call {callee:=.value f,args, .. }=>if BS r then pQ P T H (g f) (args.toList.map g)else dB P H r dst (g f) (dA (g f)++args.toList.map g)
 | .call {callee:=.builtin b,args,argTypes}=>match b,args.toList.map g,argTypes.toList with
   | .len,[x],[t]=>qS T H t x
   | .append,[s,x],[t,u]=>if t=u\/(T u).k.isStr=true then(match r with
     |some .inp=>fY T H t s x
     |some (.app lo c)=>lK T H dst t lo c s x
     |some (.appv lo c v)=>nX T H dst t lo c v s x
     |some (.tie kid)=>nY T H dst t kid s x
     |_=>if SQ s then lJ T H dst t s x else jE T H dst t s x)else if(T u).k.isInt then lL T H dst t s x else .fail
   | .cap,[x],[t]=>match r with
     |some (.cap lo c)=>xL T H t lo c x
     |_=>sE T H t x
   | .clear,[x],[t]=>lM T H t x
   | .copy,[d,s],[t,_]=>if SQ d then pP T H t d s else if IA d then fP T H t d s else sD T H t d s
   | .min,l,_=>xM false l
   | .max,l,_=>xM true l
   | .delete,[m,k],[t,_]=>pU T H t m k
   |_,_,_=>.fail
 |_=>.fail
section
open Go.RowKit
theorem aW{α:Type}(f:Nat->α)(i:Nat)(x:α):cQ f i x i=x:=by simp[cQ]
theorem cO{α:Type}(f:Nat->α){i j:Nat}(x:α)(h:j≠i):cQ f i x j=f j:=by simp[cQ,h]
section
variable{w:World} {E:Nat->Prop} {β:Nat->Option Nat} {H:Nat->bJ}
theorem RD.one{x:DV}{v:Value}(h:RD w E x v)(b:∀a,x≠ .agg a):v.oneCell'=true:=by
 cases h<;>first|rfl|(exact absurd rfl (b _))|assumption
theorem xO{v:Value}(h:v.oneCell'=true):v.cells= #[v]:=by cases v<;>simp_all[Value.oneCell',Value.cells]
theorem Lr{x:DV}(b:∀a,x≠ .agg a):aQ x=[x]:=by cases x<;>first|rfl|exact absurd rfl (b _)
theorem RD.cells{x:DV}{v:Value}(h:RD w E x v):v.cells.toList.length=(aQ x).length/\∀(i:Nat) (c:DV) (u:Value),(aQ x)[i]? =some c->v.cells.toList[i]? =some u->RD w E c u:=by
 by_cases f:∃cs,x=.agg cs
 .obtain⟨cs,rfl⟩:=f;cases h with
  |agg cs vs hl _ h=>exact⟨by simpa [Value.cells,aQ]using hl,λi c u a d=>h i c u a (by simpa [Value.cells]using d)⟩
 .have b:∀cs,x≠ .agg cs:=λcs e=>f ⟨cs,e⟩;have g:=h.one b;rw[xO g,Lr b];refine⟨rfl,λi c u a d=>?_⟩;cases i with
  |zero=>simp at a d;subst a;subst d;exact h
  |succ i=>simp at a
theorem RD.cells1{x:DV}{v:Value}(h:RD w E x v):∀u∈v.cells.toList,u.oneCell'=true:=by
 by_cases c:∃cs,x=.agg cs
 .obtain⟨cs,rfl⟩:=c;cases h with
  |agg cs vs hl h1 h=>intro u a;exact h1 u (by simpa [Value.cells]using a)
 .have b:=h.one λcs e=>c ⟨cs,e⟩;rw[xO b];intro u a;simp at a;subst a;exact b
theorem R.cells{x:LV}{v:Value}(o:iX H x=true)(h:R w E β H x v):v.cells.toList.length=(dT x).length/\∀(i:Nat) (c:LV) (u:Value),(dT x)[i]? =some c->v.cells.toList[i]? =some u->R w E β H c u:=by
 have a:∀(x:LV) (v:Value),R w E β H x v->dT x=[x]->v.oneCell'=true->v.cells.toList.length=(dT x).length/\∀(i:Nat) (c:LV) (u:Value),(dT x)[i]? =some c->v.cells.toList[i]? =some u->R w E β H c u:=by
  intro x v h s r;rw[xO r,s];refine⟨rfl,λi c u l m=>?_⟩;cases i with
  |zero=>simp at l m;subst l;subst m;exact h
  |succ i=>simp at l
 have f:=h;cases h with
 |d x v h=>
  obtain⟨g,q⟩:=h.cells;have e:dT (.d x)=(aQ x).map .d:=by cases x<;>rfl
  rw[e];refine⟨by simpa using g,λi c u l m=>?_⟩;rw[D1]at l;cases p:(aQ x)[i]? with
  |none=>simp[p]at l
  |some d=>simp[p]at l;subst l;exact .d _ _ (q i d u p m)
 |agg cs vs hl _ h=>exact⟨by simpa [Value.cells,dT]using hl,λi c u l m=>h i c u l (by simpa [Value.cells]using m)⟩
 |bx id off b fz cs hH hb=>exact a _ _ f rfl rfl
 |bxdead id off v hH g=>exact a _ _ f rfl g
 |rp id k j b fz size xs hH hb=>exact a _ _ f rfl rfl
 |rpdead id k j v hH g=>exact a _ _ f rfl g
 |ow=>exact a _ _ f rfl rfl
 |ow0=>exact a _ _ f rfl rfl
 |owdead id k n v hH g=>exact a _ _ f rfl g
 |oc=>exact a _ _ f rfl rfl
 |ocdead id k n c v hH g=>exact a _ _ f rfl g
 |sb=>exact a _ _ f rfl rfl
 |sbdead id k n c v hH g=>exact a _ _ f rfl g
 |fn=>exact a _ _ f rfl rfl
 |bm=>exact a _ _ f rfl rfl
 |tup=>simp[iX]at o
 |when=>simp[iX]at o
 |nl=>exact a _ _ f rfl rfl
 |mp=>exact a _ _ f rfl rfl
 |mpdead id v hH g=>exact a _ _ f rfl g
 |it=>simp[iX]at o
 |itdead=>simp[iX]at o
 |junk=>simp[iX]at o
theorem R.cells1{x:LV}{v:Value}(e:iX H x=true)(h:R w E β H x v):∀u∈v.cells.toList,u.oneCell'=true:=by
 have a:∀v:Value,v.oneCell'=true->∀u∈v.cells.toList,u.oneCell'=true:=by
  intro v g u f;rw[xO g]at f;simp at f;subst f;exact g
 cases h with
 |d x v h=>exact h.cells1
 |agg cs vs hl h1 h=>intro u f;exact h1 u (by simpa [Value.cells]using f)
 |bx id off b fz cs hH hb=>exact a _ rfl
 |bxdead id off v hH h1=>exact a _ h1
 |rp id k j b fz size xs hH hb=>exact a _ rfl
 |rpdead id k j v hH h1=>exact a _ h1
 |ow=>exact a _ rfl
 |ow0=>exact a _ rfl
 |owdead id k n v hH h1=>exact a _ h1
 |oc=>exact a _ rfl
 |ocdead id k n c v hH h1=>exact a _ h1
 |sb=>exact a _ rfl
 |sbdead id k n c v hH h1=>exact a _ h1
 |fn=>exact a _ rfl
 |bm=>exact a _ rfl
 |tup=>simp[iX]at e
 |when=>simp[iX]at e
 |nl=>exact a _ rfl
 |mp=>exact a _ rfl
 |mpdead id v hH h1=>exact a _ h1
 |it=>simp[iX]at e
 |itdead=>simp[iX]at e
 |junk=>simp[iX]at e
theorem xP(s:ByteArray):(⟨s.data.toList.toArray⟩:ByteArray)=s:=by cases s;simp
theorem SR(v:Value):R w E β H (mI v) v:=by
 unfold mI;split
 .exact .d _ _ (.bool _)
 .exact .d _ _ (.int _ _)
 .rename_i s;have:=RD.str (w:=w) (E:=E) s.data.toList;rw[xP]at this;exact .d _ _ this
 .exact .nl _
 .exact .junk _
 .exact .junk _
 .rename_i c d e f a b;refine .d _ _ (.val _ ?_);cases v<;>first|rfl|exact absurd rfl (a _)|exact absurd rfl (b _)
theorem R.const(v:Value):R w E β H (pC v) v:=by
 unfold pC;split
 .exact .d _ _ (.bool _)
 .exact .d _ _ (.int _ _)
 .rename_i s;have:=RD.str (w:=w) (E:=E) s.data.toList;rw[xP]at this;exact .d _ _ this
 .exact .nl _
 .rename_i d;split
  .rename_i h;have e:d=d.toList.toArray:=bA;rw[e];refine .agg _ _ bA (λu f=>List.all_eq_true.1 h u (by simpa using f)) λi c u b f=>?_;rw[D1]at b;have a:d.toList[i]? =some u:=by simpa using f
   cases q:d.toList[i]? with
   |none=>rw[q]at a;cases a
   |some u'=>
    rw[q]at a;cases a;simp only[List.toList_toArray]at b;rw[q]at b;cases b;exact SR _
  .exact .junk _
 .exact .junk _
 .rename_i k l m n g j;refine .d _ _ (.val _ ?_);cases v<;>first|rfl|exact absurd rfl (g _)|exact absurd rfl (j _)
theorem R.fn0(f:FuncId):R w E β H (.d (.fn f [])) (.func (.func f) #[] #[]):=.d _ _ (.fn f [] [] rfl bA)
theorem BT{α:Type}:∀(l:List (Option α)) (a:List α),cS l=some a->l=a.map some
 |[],a,h=>by simp[cS]at h;subst h;rfl
 |none::_,_,h=>by simp[cS]at h
 |some x::r,a,h=>by
  simp only[cS,A3]at h;obtain⟨c,b,rfl⟩:=h;rw[BT r c b];rfl
theorem jF{α γ:Type}{f:α->Option γ}{l:List α}{xs:List γ}(h:cS (l.map f)=some xs):xs.length=l.length/\∀(i:Nat) (a:α) (x:γ),l[i]? =some a->xs[i]? =some x->f a=some x:=by
 have b:=BT _ _ h;refine⟨by have:=congrArg List.length b;simpa using this.symm,λi a x c d=>?_⟩;have:=congrArg (λl=>l[i]?) b;simpa [c,d]using this
theorem IE{a:Nat}{b:List DV}(c:∀x∈b,(aQ x).length=a)(k:Nat)(j:Nat)(h:j<a):
 (bZ b)[k*a+j]? =(b[k]?).bind λx=>(aQ x)[j]? :=by
 induction b generalizing k with
 |nil=>simp[bZ]
 |cons x t ih=>
  have d:=c x bA;have f:∀y∈t,(aQ y).length=a:=λy g=>c y (by simp[g]);simp only[bZ,B4];cases k with
  |zero=>
   rw[B9 aD];simp
  |succ k=>
   rw[B5 (by rw[d];have:a<=(k+1)*a:=Nat.le_mul_of_pos_left _ aD;omega)];have e:(k+1)*a+j-(aQ x).length=k*a+j:=by rw[d,A9];omega
   rw[e];simpa [bZ]using ih f k
theorem flat_len{size:Nat}{a:List DV}(b:∀x∈a,(aQ x).length=size):(bZ a).length=a.length*size:=by
 induction a with
 |nil=>simp[bZ]
 |cons x t ih=>
  have:=ih λy c=>b y (by simp[c]);simp only[bZ,B4,C9,List.length_cons]at*;rw[this,b x bA,A9];omega
theorem xQ{a:Nat}{b:List DV}(c:∀x∈b,(aQ x).length=a)(k:Nat):bZ (b.drop k)=(bZ b).drop (k*a):=by
 induction b generalizing k with
 |nil=>simp[bZ]
 |cons x t ih=>
  have d:=c x bA;cases k with
  |zero=>simp
  |succ k=>
   simp only[List.drop_succ_cons];rw[ih (λy e=>c y (by simp[e]))];simp only[bZ,B4];rw[A9,C5,C4,<-List.drop_drop,<-d,List.drop_left'];rfl
theorem jW{a:Nat}{b:List DV}(c:∀x∈b,(aQ x).length=a)(k:Nat):bZ (b.take k)=(bZ b).take (k*a):=by
 induction b generalizing k with
 |nil=>simp[bZ]
 |cons x t ih=>
  have d:=c x bA;cases k with
  |zero=>simp[bZ]
  |succ k=>
   simp only[List.take_succ_cons,bZ,B4];have:=ih (λy e=>c y (by simp[e])) k;simp only[bZ]at this;rw[this,List.take_append,d,A9,C5,Nat.add_sub_cancel,List.take_of_length_le (l:=aQ x) (by rw[d];exact Nat.le_add_left _ _)]
theorem qT(a b:List DV):bZ (a++b)=bZ a++bZ b:=by simp[bZ]
theorem Do{a:Nat}{b:List DV}(c:∀x∈b,(aQ x).length=a)(k m:Nat):∀x∈(b.drop k).take m,(aQ x).length=a:=
 λx d=>c x (B0 (B6 d))
theorem IF{B:Nat->Prop}(z:∀id,dS w E β H id)(O:∀x v,RD w E x v->RD w B x v){id k m c b a:Nat}{N:Bool}{n:List DV}(P:H id=.row N a n)(q:β id=some b)(I:k+m<=n.length)(hn:m<=c)(Q:c<=maxLen)
 (X:∀b,β id=some b->¬B b)(Z:0<m):RD w B (.sl ((n.drop k).take m)) (.slice (some ⟨b,k*a,none⟩) m c):=by
 have D:=z id;simp only[dS,P]at D;obtain⟨W,f,D⟩:=D;rcases D with⟨K,_⟩|⟨C,M,e,s,g,J,t⟩
 .rw[K]at q;cases q
 .rw[s]at q;injection q with q;subst q
  have h:((n.drop k).take m).length=m:=kH;have L:(n.drop k).take m≠[]:=by intro U;rw[U]at h;simp at h;omega
  have o:=Do f k m;have V:k*a+m*a<=n.length*a:=by rw[<-A9];exact B7 _ I
  have p:∀(j:Nat) (u:Value),((e.toList.drop (k*a)).take (m*a))[j]? =some u->w.cell? ⟨C,k*a+j,none⟩=some u:=by
   intro j u r;rw[cell_of_row w C _ e M (0,0) g];rw[A0]at r;split at r
   .simpa using r
   .cases r
  have A:∀u∈(e.toList.drop (k*a)).take (m*a),u.oneCell'=true:=by
   intro u r;obtain⟨i,G,rfl⟩:=C2 r;simp only[D2,D3];simp at G;have S:=flat_len f;exact(t (k*a+i) ((bZ n)[k*a+i]'aD) _ (A1 _) bA).1
  have l:=RD.sl (w:=w) (E:=B) ((n.drop k).take m) C (k*a) c a ((e.toList.drop (k*a)).take (m*a)) L (X C s) o aD Q
   (by rw[h];simp;omega) A (A5.1 g).1 p ?_
  .rw[h]at l;exact l
  .intro i d v y F;rw[jW (λx Y=>f x (B0 Y)),xQ f,A0]at y;rw[A0]at F;split at y
   .rename_i G;rw[if_pos G]at F;simp only[A4]at y F;exact O _ _ (t _ d v y (by simpa using F)).2
   .cases y
theorem nZ{E':Nat->Prop}(t:∀id,dS w E β H id)(O:∀x v,RD w E x v->RD w E' x v):
 ∀(n:Nat) (l:LV) (x:DV) (v:Value),close H n l=some x->(∀id∈bX H n l,∀b,β id=some b->¬E' b)->R w E β H l v->RD w E' x v:=by
 intro n;induction n with
 |zero=>intro l x v h;simp[close]at h
 |succ n ih=>
  intro l x v h C G;have z:∀(s:List LV) (p:List DV) (r:List Value),cS (s.map (close H n))=some p->(∀id∈s.flatMap (bX H n),∀b,β id=some b->¬E' b)->r.length=s.length->
   (∀(i:Nat) (c:LV) (v:Value),s[i]? =some c->r[i]? =some v->R w E β H c v)->r.length=p.length/\∀(i:Nat) (c:DV) (v:Value),p[i]? =some c->r[i]? =some v->RD w E' c v:=by
   intro s p r h C I F;obtain⟨D,A⟩:=jF h;refine⟨aD,λi c v B Q=>?_⟩;have hi:i<s.length:=by have:=(C3.1 B).1;omega
   have P:=A1 hi;exact ih _ _ _ (A i _ c P B) (λid L b q=>C id (D5.2 ⟨_,D6 hi,L⟩) b q) (F i _ v P Q)
  cases l with
  |d y=>simp only[close,Option.some.injEq]at h;subst h;cases G with|d _ _ h=>exact O _ _ h
  |agg s=>
   simp only[close,A3]at h;obtain⟨p,h,rfl⟩:=h;cases G with
   |agg _ r I N F=>
    obtain⟨D,A⟩:=z s p r h (by simpa [bX]using C) I F;exact .agg p r D N A
  |ow id k m=>
   simp only[close]at h;cases g:H id with
   |row fz size p=>
    simp only[g,Option.some.injEq]at h;subst h;cases G with
    |ow _ _ _ b c fz' size' xs' cur e hH' q hkn hn B o hroom=>
     rw[g]at hH';injection hH' with _ e1 e2
     subst e1;subst e2;rcases D0 m with M|M
     .subst M;simpa using RD.sl0 (w:=w) (E:=E') _ c B
     .exact IF t O g q hkn hn B (λb q=>C id (by simp[bX]) b q) M
    |ow0 _ _ a fz' size' xs' hH'=>simpa using RD.sl0 (w:=w) (E:=E') a 0 (by unfold maxLen;omega)
    |owdead _ _ _ _ hH'=>rw[g]at hH';cases hH'
   |_=>simp[g]at h
  |sb=>simp[close]at h
  |oc id k m c=>
   simp only[close]at h;cases g:H id with
   |row fz size p=>
    simp only[g,Option.some.injEq]at h;subst h;cases G with
    |oc _ _ _ _ a fz' size' xs' hH' hn hkc B ha=>
     rw[g]at hH';injection hH' with _ e1 e2
     subst e1;subst e2;rcases D0 m with M|M
     .subst M;simpa using RD.sl0 (w:=w) (E:=E') a c B
     .rcases ha with ha|⟨b,q,rfl⟩
      .omega
      .exact IF t O g q aD hn B (λb q=>C id (by simp[bX]) b q) M
    |ocdead _ _ _ _ _ hH'=>rw[g]at hH';cases hH'
   |_=>simp[g]at h
  |bx id off=>
   simp only[close]at h;cases g:H id with
   |box fz s=>
    simp only[g,A3]at h;obtain⟨p,h,rfl⟩:=h;have N:=t id;simp only[dS,g]at N;obtain⟨b,e,Z,q,o,a0,W,F⟩:=N;simp only[bX,g,C8]at C;cases G with
    |bx _ _ b' _ _ _ hb'=>
     rw[q]at hb';injection hb' with hb';subst hb'
     obtain⟨D,A⟩:=z (s.drop off) p (Z.drop off) h (λY L b q=>C Y (.inr L) b q) kH (λi c v B Q=>by
      simp only[A4]at B Q;exact F _ c v B Q)
     refine .ro p b off (Z.drop off) (C id (.inl rfl) b q) D (λu X=>W u (B0 X)) (A5.1 o).1 (λj u X=>?_) A;rw[cell_of_row w b _ Z.toArray e (0,0) o];simpa using X
    |bxdead _ _ _ hH'=>rw[g]at hH';cases hH'
   |_=>simp[g]at h
  |fn f s=>
   simp only[close,A3]at h;obtain⟨p,h,rfl⟩:=h;cases G with
   |fn _ _ r I F=>
    obtain⟨D,A⟩:=z s p r h (by simpa [bX]using C) I F;exact .fn f p r D A
  |bm f s=>
   simp only[close,A3]at h;obtain⟨p,h,rfl⟩:=h;cases G with
   |bm _ _ r I F=>
    obtain⟨D,A⟩:=z s p r h (by simpa [bX]using C) I F;exact .bm f p r D A
  |nl=>simp only[close,Option.some.injEq]at h;subst h;cases G with|nl a=>exact .sl0 a 0 (by unfold maxLen;omega)
  |mp id=>
   simp only[close]at h;cases g:H id with
   |map fz ks r=>
    simp only[g,Option.some.injEq]at h;subst h;have N:=t id;simp only[dS,g]at N;obtain⟨b,S,J,q,o,hk,I,K,D,A⟩:=N;cases G with
    |mp _ b' _ _ _ _ hb'=>
     rw[q]at hb';injection hb' with hb';subst hb'
     exact .mp ks r b J S (C id (by simp[bX]) b q) (A5.1 o).1 o hk I K (λi d e U V=>O _ _ (D i d e U V)) (λi d e U V=>O _ _ (A i d e U V))
    |mpdead _ _ hH'=>rw[g]at hH';cases hH'
   |_=>simp[g]at h
  |rp|it|tup|when|junk=>simp[close]at h
end
end
section
open Go.RowKit
structure fB(X:Nat->Prop)(H:Nat->bJ)(β:Nat->Option Nat)(w:World)(H':Nat->bJ)(β':Nat->Option Nat)(w':World):Prop where
 size:w.heap.size<=w'.heap.size
 blk:∀k,k<w.heap.size->¬Ex X β H k->w'.heap[k]? =w.heap[k]?
 sub:∀k,k<w.heap.size->Ex X β' H' k->Ex X β H k
 pass:∀id,bW w β H w' β' H' id
section
variable{w0:dE} {X:Nat->Prop} {H H' H'':Nat->bJ} {β β' β'':Nat->Option Nat} {w w' w'':World}
theorem mG.mem{N:Nat}{env:Nat->LV}{a:Act}(h:mG N w0 X env H β a w):dV w0 X H β w:=⟨h.ext,h.xold,h.fresh,h.inj,h.obj,h.pin⟩
theorem fB.D(g:fB X H β w H' β' w'){x:DV}{v:Value}(h:RD w (Ex X β H) x v):RD w' (Ex X β' H') x v:=h.step g.blk g.size g.sub
theorem fB.R(g:fB X H β w H' β' w'){x:LV}{v:Value}(h:R w (Ex X β H) β H x v):R w' (Ex X β' H') β' H' x v:=h.step (λ_ _=>g.D) g.pass
theorem bW.refl(id:Nat):bW w β H w β H id:=by
 unfold bW;cases h:H id with
 |absent=>trivial
 |dead=>rfl
 |box fz cs=>exact .inr ⟨⟨fz,cs,rfl⟩,rfl⟩
 |row fz s xs=>exact .inr ⟨⟨fz,xs,rfl,A6 _⟩,rfl,λb a e _ c=>⟨a,e,c,rfl⟩⟩
 |map fz ks vs=>exact .inr ⟨⟨fz,ks,vs,rfl⟩,rfl⟩
 |iter fz ks vs=>exact .inr ⟨⟨fz,ks,vs,rfl⟩,rfl⟩
 |know x v=>trivial
theorem bW.trans{id:Nat}(h:bW w β H w' β' H' id)(k:bW w' β' H' w'' β'' H'' id):bW w β H w'' β'' H'' id:=by
 unfold bW at*;cases e:H id with
 |absent=>trivial
 |dead=>simp only[e]at h;simpa only[h]using k
 |box fz cs=>
  simp only[e]at h;rcases h with h|⟨⟨c,cs',h⟩,a⟩
  .simp only[h]at k;exact .inl k
  .simp only[h]at k;rcases k with k|⟨k,d⟩
   .exact .inl k
   .exact .inr ⟨k,d.trans a⟩
 |row fz s xs=>
  simp only[e]at h;rcases h with h|⟨⟨c,D,h,z⟩,a,y⟩
  .simp only[h]at k;exact .inl k
  .simp only[h]at k;rcases k with k|⟨⟨l,o,k,B⟩,d,A⟩
   .exact .inl k
   .refine .inr ⟨⟨l,o,k,B8 z B⟩,d.trans a,λb cur t i j=>?_⟩;obtain⟨f,C,p,q⟩:=y b cur t i j;obtain⟨g,t2,r,u⟩:=A b f C (a.trans i) p;exact⟨g,t2,r,u.trans q⟩
 |map fz ks vs=>
  simp only[e]at h;rcases h with h|⟨⟨c,m,n,h⟩,a⟩
  .simp only[h]at k;exact .inl k
  .simp only[h]at k;rcases k with k|⟨k,d⟩
   .exact .inl k
   .exact .inr ⟨k,d.trans a⟩
 |iter fz ks vs=>
  simp only[e]at h;rcases h with h|⟨⟨c,m,n,h⟩,a⟩
  .simp only[h]at k;exact .inl k
  .simp only[h]at k;rcases k with k|⟨k,d⟩
   .exact .inl k
   .exact .inr ⟨k,d.trans a⟩
 |know x v=>trivial
theorem fB.refl:fB X H β w H β w:=⟨A6 _,λ_ _ _=>rfl,λ_ _ h=>h,λid=>bW.refl id⟩
theorem fB.trans(g:fB X H β w H' β' w')(k:fB X H' β' w' H'' β'' w''):fB X H β w H'' β'' w'':=
 ⟨B8 g.size k.size,λb a c=>(k.blk b (A2 a g.size) (λh=>c (g.sub b a h))).trans (g.blk b a c),
   λb a c=>g.sub b a (k.sub b (A2 a g.size) c),λid=>(g.pass id).trans (k.pass id)⟩
theorem dS.step{E C:Nat->Prop}{id:Nat}(M:w.heap.size<=w'.heap.size)(z:∀k,k<w.heap.size->¬E k->w'.heap[k]? =w.heap[k]?/\¬C k)(y:∀x v,RD w E x v->RD w' C x v)(N:∀l v,R w E β H l v->R w' C β' H' l v)(S:H' id=H id)
 (p:(H id).live=true->β' id=β id)(a:∀b,(H id).live=true->β id=some b->w'.heap[b]? =w.heap[b]?)(h:dS w E β H id):dS w' C β' H' id:=by
 unfold dS at*;rw[S];cases e:H id with
 |absent=>trivial
 |dead=>trivial
 |box fz cs=>
  simp only[e,bJ.live,forall_const]at h p a|-;obtain⟨b,t,W,j,g,m,V,o⟩:=h;exact⟨b,t,W,(p).trans j,(a b j).trans g,m,V,λi c v U D=>N _ _ (o i c v U D)⟩
 |row fz s xs=>
  simp only[e,bJ.live,forall_const]at h p a|-;obtain⟨O,j,g⟩:=h;refine⟨O,j,?_⟩;rcases g with⟨g,m⟩|⟨b,t,G,g,m,o,u⟩
  .exact .inl ⟨p.trans g,m⟩
  .exact .inr ⟨b,t,G,p.trans g,(a b g).trans m,o,λi d v n D=>⟨(u i d v n D).1,y _ _ (u i d v n D).2⟩⟩
 |map fz ks vs=>
  simp only[e,bJ.live,forall_const]at h p a|-;obtain⟨b,q,f,j,g,m,o,u,K,L⟩:=h;exact⟨b,q,f,p.trans j,(a b j).trans g,m,o,u,λi d e n r=>y _ _ (K i d e n r),λi d e n r=>y _ _ (L i d e n r)⟩
 |iter fz ks vs=>
  simp only[e,bJ.live,forall_const]at h p a|-;obtain⟨b,F,q,f,B,A,j,g,m,o,u,K,L,P,Q,I,J⟩:=h;exact⟨b,F,q,f,B,A,p.trans j,(a b j).trans g,(z F o m).2,A2 o M,(z F o m).1.trans u,K,L,P,Q,λi d e n r=>y _ _ (I i d e n r),λi d e n r=>y _ _ (J i d e n r)⟩
 |know x v=>
  simp only[e]at h|-;exact N _ _ h
theorem fB.out(g:fB X H β w H' β' w'):∀k,k<w.heap.size->¬Ex X β H k->w'.heap[k]? =w.heap[k]?/\¬Ex X β' H' k:=λk b a=>⟨g.blk k b a,λh=>a (g.sub k b h)⟩
theorem fB.marks(g:fB X H β w H' β' w'){B:dE}{l:List Deferred}(h:FA B w (Ex X β H) l):FA B w' (Ex X β' H') l:=
 let⟨a,b,c,d,e⟩:=h
 ⟨a,b,c,d,λD f=>let⟨i,q1,q2⟩:=e D f;let r:=g.out D (A5.1 q2).1 q1;⟨i,r.2,r.1.trans q2⟩⟩
theorem BU(o:bJ):(frozen o).live=o.live:=by cases o<;>rfl
theorem Dp(o:bJ):(frozen o).mut=false:=by cases o<;>rfl
theorem eY(H:Nat->bJ)(ids:List Nat)(id:Nat):cD H (bP H ids) id=if id∈ids then frozen (H id)else H id:=by
 induction ids with
 |nil=>simp[bP,cD]
 |cons i t ih=>
  simp only[bP,List.map_cons,cD]at*;by_cases h:id=i
  .simp[h]
  .simp only[h,if_false,C8,false_or];exact ih
theorem dV.freeze(m:dV w0 X H β w)(ids:List Nat):dV w0 X (cD H (bP H ids)) β w/\fB X H β w (cD H (bP H ids)) β w:=by
 have a:=eY H ids;have l:∀id,(cD H (bP H ids) id).live=(H id).live:=λid=>by rw[a];split<;>simp[BU]
 have y:∀id,(cD H (bP H ids) id).mut=true->(H id).mut=true:=λid h=>by
  rw[a]at h;split at h
  .rw[Dp]at h;cases h
  .exact h
 have g:fB X H β w (cD H (bP H ids)) β w:=by
  refine⟨A6 _,λ_ _ _=>rfl,λk _ O=>?_,λid=>?_⟩
  .rcases O with O|⟨id,r,n⟩
   .exact .inl O
   .exact .inr ⟨id,y id r,n⟩
  .have Z:=bW.refl (w:=w) (β:=β) (H:=H) id;by_cases o:id∈ids
   .unfold bW at*;rw[a,if_pos o];cases e:H id with
    |absent=>trivial
    |dead=>rfl
    |box fz cs=>exact .inr ⟨⟨true,cs,rfl⟩,rfl⟩
    |row fz s xs=>exact .inr ⟨⟨true,xs,rfl,A6 _⟩,rfl,λb A e _ N=>⟨A,e,N,rfl⟩⟩
    |map fz ks vs=>exact .inr ⟨⟨true,ks,vs,rfl⟩,rfl⟩
    |iter fz ks vs=>exact .inr ⟨⟨true,ks,vs,rfl⟩,rfl⟩
    |know x v=>trivial
   .unfold bW at*;rw[a,if_neg o];exact Z
 refine⟨⟨m.ext,m.xold,λid b hl N=>(m.fresh id b (by rw[<-l];exact hl) N).imp (E3 (λh=>h) λh=>⟨h.1,λY=>h.2 (y _ Y)⟩) (λh=>h),λi j b V W=>m.inj i j b (by rw[<-l];exact V) (by rw[<-l];exact W),λid=>?_,λid a=>(m.pin id a).trans (g.pass id)⟩,g⟩;by_cases o:id∈ids
 .have q:=m.obj id;unfold dS at*;rw[a,if_pos o];cases e:H id with
  |absent=>trivial
  |dead=>trivial
  |box fz cs=>
   simp only[e,frozen]at q|-;obtain⟨b,t,us,r,n,B,I,u⟩:=q;exact⟨b,t,us,r,n,B,I,λi c v U G=>g.R (u i c v U G)⟩
  |row fz s xs=>
   simp only[e,frozen]at q|-;obtain⟨I,r,n⟩:=q;refine⟨I,r,?_⟩;rcases n with n|⟨b,t,A,n,B,u,D⟩
   .exact .inl n
   .exact .inr ⟨b,t,A,n,B,u,λi d v p G=>⟨(D i d v p G).1,g.D (D i d v p G).2⟩⟩
  |map fz ks vs=>
   simp only[e,frozen]at q|-;obtain⟨b,z,f,r,n,B,u,D,L,M⟩:=q;exact⟨b,z,f,r,n,B,u,D,λi d e p C=>g.D (L i d e p C),λi d e p C=>g.D (M i d e p C)⟩
  |iter fz ks vs=>
   simp only[e,frozen]at q|-;obtain⟨b,P,z,f,F,E,r,n,B,u,D,L,M,Q,S,J,K⟩:=q;exact⟨b,P,z,f,F,E,r,n,(g.out P u B).2,u,D,L,M,Q,S,λi d e p C=>g.D (J i d e p C),λi d e p C=>g.D (K i d e p C)⟩
  |know x v=>
   simp only[e,frozen]at q|-;exact g.R q
 .exact(m.obj id).step g.size g.out (λ_ _=>g.D) (λ_ _=>g.R) (by rw[a,if_neg o]) (λ_=>rfl) (λ_ _ _=>rfl)
theorem Ex.lt(m:dV w0 X H β w){k:Nat}(h:Ex X β H k):k<w.heap.size:=by
 rcases h with h|⟨id,a,b⟩
 .exact A2 (m.xold.1 k h).1 m.ext.size
 .exact(m.fresh id k (bS a) b).2
theorem dV.globL(m:dV w0 X H β w):zI w λk=>X k\/∃id,(H id).live=true/\β id=some k:=
 m.xold.2.step (λk c f=>m.ext.block k c λ⟨id,a,b,d⟩=>f (.inr ⟨id,a,bS b,d⟩)) m.ext.size λk c e=>by
  rcases e with h|⟨id,a,b⟩
  .exact .inl h
  .rcases(m.fresh id k a b).1 with h|h
   .omega
   .exact .inr h.1
theorem dV.glob(m:dV w0 X H β w):zI w (Ex X β H):=m.globL.anti λk h=>by
 rcases h with h|⟨id,a,b⟩
 .exact .inl h
 .exact .inr ⟨id,bS a,b⟩
theorem dV.grow(m:dV w0 X H β w)(c:Ah w.heap.size w w'):dV w0 X H β w'/\fB X H β w H β w':=by
 have d:fB X H β w H β w':=by
  refine⟨c.size,λk j _=>c.block k j,λ_ _ h=>h,λid=>?_⟩;have i:=bW.refl (w:=w) (β:=β) (H:=H) id;have l:=m.obj id;unfold bW at*;cases e:H id with
  |absent=>trivial
  |dead=>rfl
  |box fz cs=>simpa only[e]using i
  |row fz s xs=>
   refine .inr ⟨⟨fz,xs,rfl,A6 _⟩,rfl,λb f t _ a=>⟨f,t,?_,rfl⟩⟩;rw[c.block b (A5.1 a).1];exact a
  |map fz ks vs=>simpa only[e]using i
  |iter fz ks vs=>simpa only[e]using i
  |know x v=>trivial
 refine⟨⟨m.ext.of_below c,m.xold,λid b g a=>?_,m.inj,λid=>?_,λid hid=>(m.pin id hid).trans (d.pass id)⟩,d⟩
 .have:=m.fresh id b g a;exact⟨this.1,A2 this.2 c.size⟩
 .exact(m.obj id).step d.size d.out (λ_ _=>d.D) (λ_ _=>d.R) rfl (λ_=>rfl) λb g a=>c.block b (m.fresh id b g a).2
theorem dV.newObj(m:dV w0 X H β w)(p:Ah w.heap.size w w'){d:Nat}(y:H d=.absent){o:bJ}(B:Option Nat)
 (s:∀b,B=some b->w.heap.size<=b/\b<w'.heap.size)
 (C:(∀x v,RD w (Ex X β H) x v->RD w' (Ex X (cQ β d B) (cQ H d o)) x v)->(∀l v,R w (Ex X β H) β H l v->R w' (Ex X (cQ β d B) (cQ H d o)) (cQ β d B) (cQ H d o) l v)->
   dS w' (Ex X (cQ β d B) (cQ H d o)) (cQ β d B) (cQ H d o) d):
 dV w0 X (cQ H d o) (cQ β d B) w'/\fB X H β w (cQ H d o) (cQ β d B) w':=by
 have A:∀id,(H id).live=true->id≠d:=λid n e=>by rw[e,y]at n;cases n
 have h:fB X H β w (cQ H d o) (cQ β d B) w':=by
  refine⟨p.size,λk z _=>p.block k z,λk z u=>?_,λid=>?_⟩
  .rcases u with u|⟨id,f,g⟩
   .exact .inl u
   .by_cases a:id=d
    .subst a;rw[aW]at g;have:=(s k g).1;omega
    .rw[cO _ _ a]at f g;exact .inr ⟨id,f,g⟩
  .by_cases a:id=d
   .subst a;unfold bW;rw[y];trivial
   .have D:=(m.grow p).2.pass id;unfold bW at*;rw[cO _ _ a,cO _ _ a];exact D
 refine⟨⟨m.ext.of_below p,m.xold,λid b n c=>?_,λi j b a t f g=>?_,λid=>?_,λid hid=>(m.pin id hid).trans (h.pass id)⟩,h⟩
 .by_cases a:id=d
  .subst a;rw[aW]at c;have f:=s b c;exact⟨.inl (B8 m.ext.size f.1),f.2⟩
  .rw[cO _ _ a]at n c|-;have:=m.fresh id b n c;exact⟨this.1,A2 this.2 p.size⟩
 .by_cases q:i=d<;>by_cases r:j=d
  .rw[q,r]
  .subst q;rw[aW]at f;rw[cO _ _ r]at t g;have:=s b f;have:=(m.fresh j b t g).2;omega
  .subst r;rw[aW]at g;rw[cO _ _ q]at a f;have:=s b g;have:=(m.fresh i b a f).2;omega
  .rw[cO _ _ q]at a f;rw[cO _ _ r]at t g;exact m.inj i j b a t f g
 .by_cases a:id=d
  .subst a;exact C (λ_ _=>h.D) (λ_ _=>h.R)
  .exact(m.obj id).step h.size h.out (λ_ _=>h.D) (λ_ _=>h.R) (cO _ _ a) (λ_=>cO _ _ a) λb n c=>p.block b (m.fresh id b n c).2
theorem dV.kill(m:dV w0 X H β w)(d:Nat)(q:(H d).live=true):dV w0 X (cQ H d .dead) β w/\fB X H β w (cQ H d .dead) β w:=by
 have c:fB X H β w (cQ H d .dead) β w:=by
  refine⟨A6 _,λ_ _ _=>rfl,λk _ h=>?_,λid=>?_⟩
  .rcases h with h|⟨id,f,o⟩
   .exact .inl h
   .by_cases a:id=d
    .subst a;rw[aW]at f;cases f
    .rw[cO _ _ a]at f;exact .inr ⟨id,f,o⟩
  .by_cases a:id=d
   .subst a;unfold bW;cases e:H id<;>simp_all[aW,bJ.live]
   .have p:=bW.refl (w:=w) (β:=β) (H:=H) id;unfold bW at*;rw[cO _ _ a];exact p
 refine⟨⟨m.ext,m.xold,λid b hl hbb=>?_,λi j b a g=>?_,λid=>?_,λid hid=>(m.pin id hid).trans (c.pass id)⟩,c⟩
 .by_cases a:id=d
  .subst a;rw[aW]at hl;cases hl
  .rw[cO _ _ a]at hl|-;exact m.fresh id b hl hbb
 .by_cases l:i=d
  .subst l;rw[aW]at a;cases a
  .by_cases n:j=d
   .subst n;rw[aW]at g;cases g
   .rw[cO _ _ l]at a;rw[cO _ _ n]at g;exact m.inj i j b a g
 .by_cases a:id=d
  .subst a;unfold dS;rw[aW];trivial
  .exact(m.obj id).step c.size c.out (λ_ _=>c.D) (λ_ _=>c.R) (cO _ _ a) (λ_=>rfl) λ_ _ _=>rfl
theorem dV.moveObj(m:dV w0 X H β w){id d:Nat}{s:Nat}{z:List DV}(n:Nat)(g:H id=.row false s z)(M:H d=.absent):
 dV w0 X (cQ (cQ H id .dead) d (.row false s (z.take n))) (cQ β d (β id)) w/\fB X H β w (cQ (cQ H id .dead) d (.row false s (z.take n))) (cQ β d (β id)) w:=by
 have U:id≠d:=λe=>by rw[e,M]at g;cases g
 have y:fB X H β w (cQ (cQ H id .dead) d (.row false s (z.take n))) (cQ β d (β id)) w:=by
  refine⟨A6 _,λ_ _ _=>rfl,λk _ G=>?_,λi=>?_⟩
  .rcases G with G|⟨i,o,l⟩
   .exact .inl G
   .by_cases c:i=d
    .subst c;rw[aW]at l;exact .inr ⟨id,by rw[g];rfl,l⟩
    .rw[cO _ _ c]at o l;by_cases a:i=id
     .subst a;rw[aW]at o;cases o
     .rw[cO _ _ a]at o;exact .inr ⟨i,o,l⟩
  .by_cases c:i=d
   .subst c;unfold bW;rw[M];trivial
   .by_cases a:i=id
    .subst a;unfold bW;rw[g,cO _ _ c,aW];exact .inl rfl
    .have V:=bW.refl (w:=w) (β:=β) (H:=H) i;unfold bW at*;rw[cO _ _ c,cO _ _ a,cO _ _ c];exact V
 have f:∀i,i≠d->(cQ (cQ H id .dead) d (.row false s (z.take n)) i).live=true->i≠id/\(H i).live=true:=λi c u=>by
  rw[cO _ _ c]at u;by_cases a:i=id
  .subst a;rw[aW]at u;cases u
  .rw[cO _ _ a]at u;exact⟨a,u⟩
 have q:(H id).live=true:=by rw[g];rfl
 refine⟨⟨m.ext,m.xold,λi b u r=>?_,λi j b c N o l=>?_,λi=>?_,λid g=>(m.pin id g).trans (y.pass id)⟩,y⟩
 .by_cases c:i=d
  .subst c;rw[aW]at r;exact(m.fresh id b q r).imp (E3 (λh=>h) λh=>⟨h.1,λ_=>h.2 (by rw[g];rfl)⟩) (λh=>h)
  .rw[cO _ _ c]at r;refine(m.fresh i b (f i c u).2 r).imp (E3 (λh=>h) λh=>⟨h.1,λO=>h.2 ?_⟩) (λh=>h);rw[cO _ _ c,cO _ _ (f i c u).1]at O;exact O
 .by_cases A:i=d<;>by_cases B:j=d
  .rw[A,B]
  .subst A;rw[aW]at o;rw[cO _ _ B]at l;obtain⟨D,E⟩:=f j B N;exact absurd (m.inj id j b q E o l).symm D
  .subst B;rw[aW]at l;rw[cO _ _ A]at o;obtain⟨D,E⟩:=f i A c;exact absurd (m.inj i id b E q o l) D
  .rw[cO _ _ A]at o;rw[cO _ _ B]at l;exact m.inj i j b (f i A c).2 (f j B N).2 o l
 .by_cases c:i=d
  .subst c;have J:=m.obj id;unfold dS at*;rw[g]at J;rw[aW];simp only[]at J|-;obtain⟨Q,o,l⟩:=J;have I:(z.take n).length<=z.length:=kH;refine⟨Q,λx W=>o x (B6 W),?_⟩;rcases l with⟨l,F⟩|⟨b,t,C,l,F,S,L⟩
   .exact .inl ⟨by rw[aW];exact l,by simp[F]⟩
   .refine .inr ⟨b,t,C,by rw[aW];exact l,F,B8 (B7 _ I) S,λk K v p P=>?_⟩;rw[jW o,A0]at p;split at p
    .exact⟨(L k K v p P).1,y.D (L k K v p P).2⟩
    .cases p
  .by_cases a:i=id
   .subst a;unfold dS;rw[cO _ _ c,aW];trivial
   .exact(m.obj i).step y.size y.out (λ_ _=>y.D) (λ_ _=>y.R) (by rw[cO _ _ c,cO _ _ a]) (λ_=>cO _ _ c) λ_ _ _=>rfl
theorem dV.rewriteH{D:Nat->bJ}{J:Nat->Option Nat}{u:World}(m:dV w0 X H β w)(m0:dV w0 X D J u)(E:fB X D J u H β w){id b:Nat}{p:bJ}(N:(H id).mut=true)(L:β id=some b){w':World}(V:w'.os=w.os)(C:w'.tape=w.tape)(G:w'.output=w.output)(P:w.drawn<=w'.drawn)(f:w'.heap.size=w.heap.size)(a:∀k,k≠b->w'.heap[k]? =w.heap[k]?)
 (B:bW u J D w' β (cQ H id p) id)
 (Y:bW w β H w' β (cQ H id p) id)
 (ho:(∀x v,RD w (Ex X β H) x v->RD w' (Ex X β (cQ H id p)) x v)->(∀l v,R w (Ex X β H) β H l v->R w' (Ex X β (cQ H id p)) β (cQ H id p) l v)->
   dS w' (Ex X β (cQ H id p)) β (cQ H id p) id):
 dV w0 X (cQ H id p) β w'/\fB X D J u (cQ H id p) β w':=by
 have n:=bS N;have z:∀i,(cQ H id p i).mut=true->(H i).mut=true:=λi h=>by
  by_cases g:i=id
  .subst g;exact N
  .rw[cO _ _ g]at h;exact h
 have A:∀i,(cQ H id p i).live=true->(H i).live=true:=λi h=>by
  by_cases g:i=id
  .subst g;exact n
  .rw[cO _ _ g]at h;exact h
 have r:∀k,Ex X β (cQ H id p) k->Ex X β H k:=λk o=>by
  rcases o with o|⟨i,h1,h2⟩
  .exact .inl o
  .exact .inr ⟨i,z i h1,h2⟩
 have d:∀k,¬Ex X β H k->w'.heap[k]? =w.heap[k]? :=λk o=>a k (λe=>o (.inr ⟨id,N,by rw[e];exact L⟩));have O:∀x v,RD w (Ex X β H) x v->RD w' (Ex X β (cQ H id p)) x v:=λx v h=>h.step (λk _ o=>d k o) (by rw[f];exact A6 _) (λk _ o=>r k o);have I:∀i,i≠id->bW w β H w' β (cQ H id p) i:=λi g=>by
  have W:=bW.refl (w:=w) (β:=β) (H:=H) i;unfold bW at*;rw[cO _ _ g];cases K:H i with
  |absent=>trivial
  |dead=>rfl
  |box fz cs=>simpa only[K]using W
  |row fz s xs=>
   refine .inr ⟨⟨fz,xs,rfl,A6 _⟩,rfl,λy c t q d=>⟨c,t,?_,rfl⟩⟩;rw[a y (λe=>?_)]
   .exact d
   .subst e;exact g (m.inj i id y (by rw[K];rfl) n q L)
  |map fz ks vs=>simpa only[K]using W
  |iter fz ks vs=>simpa only[K]using W
  |know x v=>trivial
 have Z:∀l v,R w (Ex X β H) β H l v->R w' (Ex X β (cQ H id p)) β (cQ H id p) l v:=λl v h=>h.step O λi=>by
  by_cases g:i=id
  .subst g;exact Y
  .exact I i g
 have hg:fB X D J u (cQ H id p) β w':=by
  refine⟨by rw[f];exact E.size,λk M o=>(d k λh=>o (E.sub k M h)).trans (E.blk k M o),λk M o=>E.sub k M (r k o),λi=>?_⟩;by_cases g:i=id
  .subst g;exact B
  .exact(E.pass i).trans (I i g)
 refine⟨⟨⟨V.trans m.ext.os,C.trans m.ext.tape,G.trans m.ext.output,by rw[f];exact m.ext.size,λk Q F=>(a k (λe=>?_)).trans (m.ext.block k Q F),B8 m.ext.drawn P⟩,m.xold,λi y S q=>?_,λi j y g hj=>m.inj i j y (A i g) (A j hj),λi=>?_,λid hid=>(m0.pin id hid).trans (hg.pass id)⟩,hg⟩
 .subst e;rcases(m.fresh id k n L).1 with h|h
  .omega
  .exact F (h.2 N)
 .have:=m.fresh i y (A i S) q;rw[f];exact this.imp (E3 (λh=>h) λh=>⟨h.1,λU=>h.2 (z i U)⟩) (λh=>h)
 .by_cases g:i=id
  .subst g;exact ho O Z
  .exact(m.obj i).step (by rw[f];exact A6 _) (λk _ o=>⟨d k o,λh=>o (r k h)⟩) O Z (cO _ _ g) (λ_=>rfl) λy S q=>
    a y (λe=>by subst e;exact g (m.inj i id y S n q L))
theorem dV.rewriteG(m:dV w0 X H β w){id b:Nat}{o':bJ}(j:(H id).mut=true)(i:β id=some b){w':World}(h:w'.os=w.os)(e:w'.tape=w.tape)(f:w'.output=w.output)(g:w.drawn<=w'.drawn)(d:w'.heap.size=w.heap.size)(c:∀k,k≠b->w'.heap[k]? =w.heap[k]?)
 (a:bW w β H w' β (cQ H id o') id)
 (n:(∀x v,RD w (Ex X β H) x v->RD w' (Ex X β (cQ H id o')) x v)->(∀l v,R w (Ex X β H) β H l v->R w' (Ex X β (cQ H id o')) β (cQ H id o') l v)->
   dS w' (Ex X β (cQ H id o')) β (cQ H id o') id):
 dV w0 X (cQ H id o') β w'/\fB X H β w (cQ H id o') β w':=m.rewriteH m fB.refl j i h e f g d c a a n
theorem dV.rewrite(m:dV w0 X H β w){id b:Nat}{o':bJ}(z:(H id).mut=true)(u:β id=some b){i cur':Array Value}{e:TypeId}(g:w.heap[b]? =some (.cells i e (0,0)))(p:cur'.size=i.size)
 (o:(∃r h,H id=.box false r/\o'=.box false h)\/∃s q f,H id=.row false s q/\o'=.row false s f/\q.length<=f.length)
 (A:(∀x v,RD w (Ex X β H) x v->RD (w.setRow b cur') (Ex X β (cQ H id o')) x v)->(∀l v,R w (Ex X β H) β H l v->R (w.setRow b cur') (Ex X β (cQ H id o')) β (cQ H id o') l v)->
   dS (w.setRow b cur') (Ex X β (cQ H id o')) β (cQ H id o') id):
 dV w0 X (cQ H id o') β (w.setRow b cur')/\fB X H β w (cQ H id o') β (w.setRow b cur'):=by
 refine m.rewriteG z u rfl rfl rfl (A6 _) (by simp[World.setRow]) (λk o=>setRow_other w b k cur' (λe=>o (by first|exact e|exact e.symm))) ?_ A;unfold bW;rw[aW];rcases o with⟨r,h,j,n⟩|⟨s,q,f,j,n,y⟩
 .rw[j,n];exact .inr ⟨⟨false,h,rfl⟩,rfl⟩
 .rw[j,n];refine .inr ⟨⟨false,f,rfl,y⟩,rfl,λB c t d a=>?_⟩;rw[u]at d;injection d with d;subst d
  rw[g]at a;injection a with a
  injection a with e1 e2
  subst e1;subst e2;exact⟨cur',e,setRow_heap w b i cur' e (0,0) g,p⟩
end
end
section
open Go.RowKit
def uL:TypeDesc->TK->Prop
 | .int k,.int k'=>k=k'
 | .bool,.bool=>True
 | .string,.str=>True
 | .slice e,.slice e'=>e=e'
 | .struct fs,.struct l=>fs.toList.map (λf=>(f.offset,f.type))=l
 | .array n e,.arr n' e'=>n=n'/\e=e'
 | .pointer e,.ptr e'=>e=e'
 | .map k e,.map k' e'=>k=k'/\e=e'
 | .map _ _,.other=>True
 | .func _ _ _,.other=>True
 | .interface _,.other=>True
 | .tuple _,.other=>True
 |_,_=>False
def gP(P:Program)(t:TypeId):TK->Prop
 | .int k=>P.underlying t=some (.int k)
 | .bool=>P.underlying t=some .bool
 | .str=>P.underlying t=some .string
 |_=>False
def sF(P:Program)(t:TypeId)(ks:List TK):Prop:=P.stoodInHeld t=false/\∃fs,P.underlying t=some (.struct fs)/\fs.toList.length=ks.length/\
    ∀(j:Nat) (f:Field) (k:TK),fs.toList[j]? =some f->ks[j]? =some k->f.name≠ "_" /\f.offset=j/\gP P f.type k
def NX(P:Program)(t:TypeId)(ks:List TK):Prop:=∃n e inf kse,P.underlying t=some (.array n e)/\P.info? e=some inf/\inf.size=kse.length/\(sF P e kse\/∃k,kse=[k]/\gP P e k)/\ks=(B1 n kse).flatten
structure aAm(P:Program)(t:TypeId)(i:cW):Prop where
 all:∃inf d z,P.info? t=some inf/\P.underlying t=some d/\uL d i.k/\inf.size=i.size/\inf.bytes=i.bytes/\inf.zero=some z/\z.cells.toList=i.zero
 one:∀u∈i.zero,u.oneCell'=true
 zv:∃inf,P.info? t=some inf/\inf.zero=some (if i.k.agg then .agg i.zero.toArray else i.zero.getD 0 undef)/\(i.k.agg=false->i.zero.length=1)
 len:i.zero.length=i.size
 eqk:i.eqk≠[]->P.eqGuardType P.depth t=false/\(sF P t i.eqk\/NX P t i.eqk)
def fW(P:Program)(T:TypeId->cW):Prop:=∀t,(T t).k.isNone=false->aAm P t (T t)
def lT(P:Program)(w0:dE)(X:Nat->Prop)(H:Nat->bJ)(β:Nat->Option Nat)(w:World)(a:Act)(o:Oper)(r:kJ):Prop:=
 ∀(K:Act->World->Prop) (Q:Exit->Act->World->Prop),(∀v w' β',dV w0 X (cD H r.up) β' w'->fB X H β w (cD H r.up) β' w'->R w' (Ex X β' (cD H r.up)) β' (cD H r.up) r.v v->K (a.put o.dst v) w')->o.wp P a w K Q
def SK(P:Program)(w0:dE)(X:Nat->Prop)(H:Nat->bJ)(β:Nat->Option Nat)(w:World)(a:Act)(o:Oper)(rs:kJ->Prop):Prop:=
 ∀(K:Act->World->Prop) (Q:Exit->Act->World->Prop),(∀r,rs r->∀v w' β',dV w0 X (cD H r.up) β' w'->fB X H β w (cD H r.up) β' w'->R w' (Ex X β' (cD H r.up)) β' (cD H r.up) r.v v->K (a.put o.dst v) w')->o.wp P a w K Q
section
variable{P:Program} {T:TypeId->cW} {w0:dE} {X:Nat->Prop} {H:Nat->bJ} {β:Nat->Option Nat} {w:World} {a:Act} {o:Oper} {g:Operand->LV}
theorem lT.toE{r:kJ}{rs:kJ->Prop}(h:lT P w0 X H β w a o r)(c:rs r):SK P w0 X H β w a o rs:=λK Q b=>h K Q (b r c)
theorem SK.toS{r:kJ}{c:kJ->Prop}(h:SK P w0 X H β w a o c)(i:∀b,c b->b.v=r.v/\b.up=r.up):lT P w0 X H β w a o r:=λK Q g=>h K Q λb f v j k=>by
 obtain⟨d,e⟩:=i b f;rw[d,e];exact g v j k
theorem SK.mono{d c:kJ->Prop}(h:SK P w0 X H β w a o d)(k:∀r,d r->∃b,c b/\b.v=r.v/\b.up=r.up):SK P w0 X H β w a o c:=λK Q j=>h K Q λr g v w' l=>by
 obtain⟨b,i,e,f⟩:=k r g;rw[<-e,<-f];exact j b i v w' l
theorem cV{r:kJ}{v:Value}{w':World}{β':Nat->Option Nat}(d:(execOp a.eval o).run P w=.ok (.value v) w')(m:dV w0 X (cD H r.up) β' w')(b:fB X H β w (cD H r.up) β' w')
 (e:R w' (Ex X β' (cD H r.up)) β' (cD H r.up) r.v v):lT P w0 X H β w a o r:=by
 intro K Q c;unfold Oper.wp;rw[d];exact c v w' β' m b e
theorem lT.plain(m:dV w0 X H β w){b:LV}{c:Prop}{v:Value}(d:(execOp a.eval o).run P w=.ok (.value v) w)(e:R w (Ex X β H) β H b v):lT P w0 X H β w a o ⟨b,c,[]⟩:=
 cV d m fB.refl e
theorem fW.parts(hT:fW P T){t:TypeId}(h:(T t).k.isNone=false):∃a d z,P.info? t=some a/\P.underlying t=some d/\uL d (T t).k/\a.size=(T t).size/\a.bytes=(T t).bytes/\a.zero=some z/\z.cells.toList=(T t).zero:=(hT t h).all
theorem fW.slice(hT:fW P T){t e:TypeId}(h:(T t).k=.slice e):P.underlying t=some (.slice e):=by
 obtain⟨b,d,z,c,f,a,_⟩:=hT.parts (t:=t) (by rw[h];rfl);rw[h]at a;cases d<;>simp_all[uL]
theorem fW.mapd(hT:fW P T){t k e:TypeId}(h:(T t).k=.map k e):P.underlying t=some (.map k e):=by
 obtain⟨b,d,z,c,f,a,_⟩:=hT.parts (t:=t) (by rw[h];rfl);rw[h]at a;cases d<;>simp_all[uL]
theorem fW.int(hT:fW P T){t:TypeId}{k:IntKind}(h:(T t).k=.int k):P.underlying t=some (.int k):=by
 obtain⟨b,d,z,c,e,a,_⟩:=hT.parts (t:=t) (by rw[h];rfl);rw[h]at a;cases d<;>simp_all[uL]
theorem fW.str(hT:fW P T){t:TypeId}(h:(T t).k=.str):P.underlying t=some .string:=by
 obtain⟨b,d,z,c,e,a,_⟩:=hT.parts (t:=t) (by rw[h];rfl);rw[h]at a;cases d<;>simp_all[uL]
theorem fW.arr(hT:fW P T){t e:TypeId}{n:Nat}(h:(T t).k=.arr n e):P.underlying t=some (.array n e):=by
 obtain⟨b,d,z,c,f,a,_⟩:=hT.parts (t:=t) (by rw[h];rfl);rw[h]at a;cases d<;>simp_all[uL]
theorem fW.struct(hT:fW P T){t:TypeId}{l:List (Nat×TypeId)}(h:(T t).k=.struct l):∃a,P.underlying t=some (.struct a)/\a.toList.map (λf=>(f.offset,f.type))=l:=by
 obtain⟨c,d,z,e,g,b,_⟩:=hT.parts (t:=t) (by rw[h];rfl);rw[h]at b;cases d<;>simp_all[uL]
theorem FD:∀(b:List LV) (a:List DV),zJ b=some a->b=a.map .d
 |[],a,h=>by simp[zJ]at h;subst h;rfl
 |c::r,a,h=>by
  cases c<;>simp only[zJ,A3,reduceCtorEq]at h;obtain⟨e,d,rfl⟩:=h;rw[FD r e d];rfl
theorem R.mkAgg{E:Nat->Prop}{a:List LV}{b:List Value}(g:b.length=a.length)(f:∀u∈b,u.oneCell'=true)(h:∀(i:Nat) (c:LV) (v:Value),a[i]? =some c->b[i]? =some v->R w E β H c v):R w E β H (mkAgg a) (.agg b.toArray):=by
 unfold Eng.mkAgg;cases e:zJ a with
 |none=>exact .agg a b g f h
 |some ds=>
  have:=FD a ds e;subst this;refine .d _ _ (.agg ds b (by simpa using g) f λi c v j k=>?_);have:=h i (.d c) v (by simp[j]) k;cases this with|d _ _ h=>exact h
theorem NY(m:dV w0 X H β w)(c:∀x,R w (Ex X β H) β H (g x) (a.eval x))(x:Operand)(b:o.op=.move x\/o.op=.assign x):lT P w0 X H β w a o (.plain (g x)):=
 lT.plain m (v:=a.eval x) (by rcases b with b|b<;>simp[execOp,b]) (c x)
theorem R.int{E:Nat->Prop}{k:IntKind}{n:Int}{v:Value}(h:R w E β H (.d (.int k n)) v):v=.int k n:=by cases h with|d _ _ h=>cases h;rfl
theorem R.bool{E:Nat->Prop}{b:Bool}{v:Value}(h:R w E β H (.d (.bool b)) v):v=.bool b:=by cases h with|d _ _ h=>cases h;rfl
theorem R.str{E:Nat->Prop}{s:List UInt8}{v:Value}(h:R w E β H (.d (.str s)) v):v=.string ⟨s.toArray⟩:=by cases h with|d _ _ h=>cases h;rfl
theorem cY{E:Nat->Prop}(k:IntKind)(n:Int):R w E β H (.d (.int k n)) (.int k n):=.d _ _ (.int k n)
theorem dW{E:Nat->Prop}(b:Bool):R w E β H (.d (.bool b)) (.bool b):=.d _ _ (.bool b)
theorem xR{E:Nat->Prop}(s:List UInt8):R w E β H (.d (.str s)) (.string ⟨s.toArray⟩):=.d _ _ (.str s)
theorem uV{t:TypeId}{k:TK}(a:gP P t k){cs:Array Value}{i:Nat}{v:Value}(b:cs[i]? =some v):(part t cs i).run P w=.ok v w:=by
 cases k<;>simp only[gP]at a<;>first|exact a.elim|simp[part,isAgg,run_underlying a,b]
theorem FE(d:Nat){t:TypeId}{k:TK}(b:gP P t k){E:Nat->Prop}{x y:DV}{u v:Value}{p:Bool}(c:FB x y=some p)(a:gG k x=true)(e:RD w E x u)(f:RD w E y v):(Op.equalIn (d+1) t u v).run P w=.ok p w:=by
 cases x<;>cases y<;>simp only[FB,reduceCtorEq,Option.some.injEq,Option.ite_none_right_eq_some]at c
 .obtain⟨c,g⟩:=c;subst c;subst g;cases e;cases f;cases k<;>simp only[gG,A7]at a;rw[run_equalIn_int w d t _ _ _ _ b];congr 1
 .subst c;cases e;cases f;cases k<;>simp only[gG,A7]at a;exact run_equalIn_bool' w d t _ _ b
 .subst c;cases e;cases f;cases k<;>simp only[gG,A7]at a;rw[run_equalIn_string w d t _ _ b,ByteArray.toList_eq,ByteArray.toList_eq]
theorem Ak(d:Nat):∀(o e:List DV) (l:List TK) (m n:List Value) (A B:Array Value) (g:List Field) (j:Nat) (c:Bool) (E:Nat->Prop),
 fX o e=some c->bV l o=true->m.length=o.length->n.length=e.length->g.length=l.length->
 (∀(i:Nat) (c:DV) (v:Value),o[i]? =some c->m[i]? =some v->RD w E c v)->(∀(i:Nat) (c:DV) (v:Value),e[i]? =some c->n[i]? =some v->RD w E c v)->
 (∀(i:Nat) v,m[i]? =some v->A[j+i]? =some v)->(∀(i:Nat) v,n[i]? =some v->B[j+i]? =some v)->
 (∀(i:Nat) (f:Field) (k:TK),g[i]? =some f->l[i]? =some k->f.name≠ "_" /\f.offset=j+i/\gP P f.type k)->
 (Op.eqFields (d+1) A B g).run P w=.ok c w:=by
 intro o;induction o with
 |nil=>
  intro e l m n A B g j c E b s F G t _ _ _ _ _;cases e with
  |nil=>
   simp only[fX,Option.some.injEq]at b;subst b;cases l with
   |nil=>have:g=[]:=B2 (by simpa using t);subst this;simp[Op.eqFields]
   |cons=>simp[bV]at s
  |cons=>simp[fX]at b
 |cons x o ih=>
  intro e l m n A B g j c E b s F G t W X S U V;cases l with
  |nil=>simp[bV]at s
  |cons k l=>
  cases e with
  |nil=>simp[fX]at b
  |cons y e=>
   match m,F,n,G,g,t with
   |u::m,F,v::n,G,f::g,t=>
    simp only[bV,C0]at s;simp only[fX]at b;cases D:FB x y with
    |none=>simp[D]at b
    |some p=>
     cases I:fX o e with
     |none=>simp[D,I]at b
     |some q=>
      simp only[D,I,Option.some.injEq]at b;subst b;obtain⟨Y,z,C⟩:=V 0 f k rfl rfl;have Z:=W 0 x u rfl rfl;have h:=X 0 y v rfl rfl;have J:A[j]? =some u:=S 0 u rfl;have K:B[j]? =some v:=U 0 v rfl;have r:=ih e l m n A B g (j+1) q E I s.2 (by simpa using F) (by simpa using G) (by simpa using t)
       (λi c v L h=>W (i+1) c v (by simpa using L) (by simpa using h)) (λi c v L h=>X (i+1) c v (by simpa using L) (by simpa using h))
       (λi v h=>by have:=S (i+1) v (by simpa using h);rw[C1,C4 1 i];exact this)
       (λi v h=>by have:=U (i+1) v (by simpa using h);rw[C1,C4 1 i];exact this)
       (λi f k O Q=>by have:=V (i+1) f k (by simpa using O) (by simpa using Q);rw[C1,C4 1 i];exact this)
      have a:∀H i v,H[i]? =some v->(part f.type H i).run P w=.ok v w:=λH i v M=>uV C M;have N:(Op.equalIn (d+1) f.type u v).run P w=.ok p w:=FE d C D s.1 Z h;simp only[Op.eqFields,Y,ne_eq,not_false_eq_true,if_true,Sem.run_bind,z,E1,a _ _ _ J,a _ _ _ K,Result.andThen_ok,N,Sem.run_ite];cases p
      .simp
      .simpa using r
end
end
section
open Go.RowKit
section
variable{P:Program} {T:TypeId->cW} {w0:dE} {X:Nat->Prop} {H:Nat->bJ} {β:Nat->Option Nat} {w:World} {a:Act} {o:Oper} {g:Operand->LV} {E:Nat->Prop}
theorem Bj(a:BinOp)(t:TypeId)(b c:Operand)(k:IntKind)(n:Int)(v:Value):(eqGuard a t b c (.int k n) v).run P w=.ok () w:=by cases a<;>cases v<;>rfl
theorem Ls(a:BinOp)(t:TypeId)(c d:Operand)(b:Bool)(v:Value):(eqGuard a t c d (.bool b) v).run P w=.ok () w:=by cases a<;>cases v<;>rfl
theorem Qn(a:BinOp)(t:TypeId)(b c:Operand)(s:ByteArray)(v:Value):(eqGuard a t b c (.string s) v).run P w=.ok () w:=by cases a<;>cases v<;>rfl
theorem Xb(g:BinOp)(t:TypeId)(h:List TK)(i:Bool){k f:IntKind}{a b:Int}(c:(aR h i g (.d (.int k a)) (.d (.int f b))).ok):
 ∃v,(binOp g t (.int k a) (.int f b)).run P w=.ok v w/\(aR h i g (.d (.int k a)) (.d (.int f b))).up=[]/\R w E β H (aR h i g (.d (.int k a)) (.d (.int f b))).v v:=by
 unfold aR at*;cases g with
 |add=>
  simp only at c|-;by_cases d:k=f
  .subst d;by_cases e:k=.i64
   .subst e;simp only[if_true,kJ.cond]at c|-;exact⟨_,by simp[binOp,Op.intArith,IntWalk.i64_in _ c],by trivial,cY _ _⟩
   .simp only[if_true,if_neg e,kJ.plain]at c|-;exact⟨_,by simp[binOp,Op.intArith],by trivial,cY _ _⟩
  .simp only[if_neg d,kJ.fail]at c
 |sub=>
  simp only at c|-;by_cases d:k=f
  .subst d;by_cases e:k=.i64
   .subst e;simp only[if_true,kJ.cond]at c|-;exact⟨_,by simp[binOp,Op.intArith,IntWalk.i64_in _ c],by trivial,cY _ _⟩
   .simp only[if_true,if_neg e,kJ.plain]at c|-;exact⟨_,by simp[binOp,Op.intArith],by trivial,cY _ _⟩
  .simp only[if_neg d,kJ.fail]at c
 |mul=>
  simp only at c|-;by_cases d:k=f
  .subst d;by_cases e:k=.i64
   .subst e;simp only[if_true,kJ.cond]at c|-;exact⟨_,by simp[binOp,Op.intArith,IntWalk.i64_in _ c],by trivial,cY _ _⟩
   .simp only[if_true,if_neg e,kJ.plain]at c|-;exact⟨_,by simp[binOp,Op.intArith],by trivial,cY _ _⟩
  .simp only[if_neg d,kJ.fail]at c
 |quo=>
  simp only at c|-;by_cases d:k=f
  .subst d;by_cases e:k=.i64
   .subst e;simp only[if_true,kJ.cond]at c|-;exact⟨_,by simp[binOp,Op.intDiv,c.1,IntWalk.i64_in _ c.2],by trivial,cY _ _⟩
   .simp only[if_true,if_neg e,kJ.cond]at c|-;exact⟨_,by simp[binOp,Op.intDiv,c],by trivial,cY _ _⟩
  .simp only[if_neg d,kJ.fail]at c
 |rem=>
  simp only at c|-;by_cases d:k=f
  .subst d;simp only[if_true,kJ.cond]at c|-;exact⟨_,by simp[binOp,Op.intDiv,c],by trivial,cY _ _⟩
  .simp only[if_neg d,kJ.fail]at c
 |shl=>
  simp only[kJ.cond]at c|-;exact⟨_,by simp[binOp,Op.shift,E4.2 c],by trivial,cY _ _⟩
 |shr=>
  simp only[kJ.cond]at c|-;exact⟨_,by simp[binOp,Op.shift,E4.2 c],by trivial,cY _ _⟩
 |andNot=>exact c.elim
 |and=>
  simp only at c|-;by_cases d:k=f
  .subst d;simp only[if_true,kJ.plain]at c|-;exact⟨_,by simp[binOp,Op.intBits],by trivial,cY _ _⟩
  .simp only[if_neg d,kJ.fail]at c
 |or=>
  simp only at c|-;by_cases d:k=f
  .subst d;simp only[if_true,kJ.plain]at c|-;exact⟨_,by simp[binOp,Op.intBits],by trivial,cY _ _⟩
  .simp only[if_neg d,kJ.fail]at c
 |xor=>
  simp only at c|-;by_cases d:k=f
  .subst d;simp only[if_true,kJ.plain]at c|-;exact⟨_,by simp[binOp,Op.intBits],by trivial,cY _ _⟩
  .simp only[if_neg d,kJ.fail]at c
 |lss=>
  simp only at c|-;by_cases d:k=f
  .subst d;simp only[if_true,kJ.plain]at c|-;exact⟨_,by simp[binOp,Op.intCmp],by trivial,dW _⟩
  .simp only[if_neg d,kJ.fail]at c
 |leq=>
  simp only at c|-;by_cases d:k=f
  .subst d;simp only[if_true,kJ.plain]at c|-;exact⟨_,by simp[binOp,Op.intCmp],by trivial,dW _⟩
  .simp only[if_neg d,kJ.fail]at c
 |gtr=>
  simp only at c|-;by_cases d:k=f
  .subst d;simp only[if_true,kJ.plain]at c|-;exact⟨_,by simp[binOp,Op.intCmp],by trivial,dW _⟩
  .simp only[if_neg d,kJ.fail]at c
 |geq=>
  simp only at c|-;by_cases d:k=f
  .subst d;simp only[if_true,kJ.plain]at c|-;exact⟨_,by simp[binOp,Op.intCmp],by trivial,dW _⟩
  .simp only[if_neg d,kJ.fail]at c
 |eql=>
  simp only at c|-;by_cases d:k=f
  .subst d;simp only[if_true,kJ.plain]at c|-;exact⟨_,by simp[binOp,Op.intCmp];rfl,by trivial,dW _⟩
  .simp only[if_neg d,kJ.fail]at c
 |neq=>
  simp only at c|-;by_cases d:k=f
  .subst d;simp only[if_true,kJ.plain]at c|-;exact⟨_,by simp[binOp,Op.intCmp];rfl,by trivial,dW _⟩
  .simp only[if_neg d,kJ.fail]at c
theorem zC{t:TypeId}{o:List TK}(h:sF P t o)(d:Nat){a b:List DV}{c:Bool}{us vs:List Value}(z:fX a b=some c)(A:bV o a=true)(j:us.length=a.length)(m:vs.length=b.length)
 (l:∀(i:Nat) (c:DV) (v:Value),a[i]? =some c->us[i]? =some v->RD w E c v)(n:∀(i:Nat) (c:DV) (v:Value),b[i]? =some c->vs[i]? =some v->RD w E c v):
 (Op.equalIn (d+2) t (.agg us.toArray) (.agg vs.toArray)).run P w=.ok c w:=by
 obtain⟨r,p,q,s,u⟩:=h;have g:P.fieldsOf t=p:=by simp[Program.fieldsOf,q]
 have e:=run_equalIn_struct (P:=P) w (d+1) t us.toArray vs.toArray (by rw[g];exact q) r;rw[g,Ak d a b o us vs us.toArray vs.toArray p.toList 0 c E z A j m s l n (λi v h=>by simpa using h) (λi v h=>by simpa using h) (λi f k x y=>by simpa using u i f k x y)]at e;exact e
theorem Al:∀{a b:List DV} {c:Bool},fX a b=some c->a.length=b.length
 |[],[],_,_=>rfl
 |x::a,y::b,c,h=>by
  simp only[fX]at h;split at h
  .rename_i d;simp[Al d]
  .cases h
 |[],_::_,_,h=>by simp[fX]at h
 |_::_,[],_,h=>by simp[fX]at h
theorem Dq:∀(n:Nat) {a b:List DV} {c:Bool},fX a b=some c->∃p q,fX (a.take n) (b.take n)=some p/\fX (a.drop n) (b.drop n)=some q/\c=(p&&q)
 |0,a,b,c,h=>⟨true,c,by simp[fX],by simpa using h,bA⟩
 |n+1,[],[],c,h=>by simp[fX]at h;subst h;exact⟨true,true,by simp[fX],by simp[fX],rfl⟩
 |n+1,x::a,y::b,c,h=>by
  simp only[fX]at h;split at h
  .rename_i p q g i;obtain⟨j,k,d,e,f⟩:=Dq n i;refine⟨p&&j,k,by simp[fX,g,d],by simpa using e,?_⟩;injection h with h
   rw[<-h,f,Bool.and_assoc]
  .cases h
 |_+1,[],_::_,_,h=>by simp[fX]at h
 |_+1,_::_,[],_,h=>by simp[fX]at h
theorem Am:∀{b:List TK} {a:List DV},bV b a=true->a.length=b.length
 |[],[],_=>rfl
 |_::b,_::a,h=>by simp only[bV,C0]at h;simp[Am h.2]
 |[],_::_,h=>by simp[bV]at h
 |_::_,[],h=>by simp[bV]at h
theorem uW:∀{b c:List TK} {a:List DV},bV (b++c) a=true->bV b (a.take b.length)=true/\bV c (a.drop b.length)=true
 |[],_,_,h=>⟨by simp[bV],by simpa using h⟩
 |_::b,c,[],h=>by simp[bV]at h
 |_::b,c,_::a,h=>by
  simp only[List.cons_append,bV,C0]at h;obtain⟨d,e⟩:=uW h.2;exact⟨by simp[bV,h.1,d],by simpa using e⟩
theorem BV{e:TypeId}{x:TypeInfo}{f:List TK}(r:P.info? e=some x)(s:x.size=f.length)(D:sF P e f)(d:Nat)(o z:Array Value):∀(m k:Nat) (a b:List DV) (c:Bool) (g n:List Value),
 fX a b=some c->bV (B1 m f).flatten a=true->g.length=a.length->n.length=b.length->
 (∀(i:Nat) (c:DV) (v:Value),a[i]? =some c->g[i]? =some v->RD w E c v)->(∀(i:Nat) (c:DV) (v:Value),b[i]? =some c->n[i]? =some v->RD w E c v)->
 (∀i,i<g.length->o[k*f.length+i]? =g[i]?)->(∀i,i<n.length->z[k*f.length+i]? =n[i]?)->
 (Op.eqItems (d+2) e f.length o z (E2 k m)).run P w=.ok c w
 |0,k,a,b,c,g,n,he,hk,_,_,_,_,_,_=>by
  have:a=[]:=by cases a<;>simp_all[bV]
  subst this;have:b=[]:=B2 (Al he).symm;subst this;simp only[fX,Option.some.injEq]at he;subst he;simp[Op.eqItems]
 |m+1,k,a,b,c,g,n,he,hk,hul,hvl,hup,hvp,y,hy=>by
  rw[C7,List.flatten_cons]at hk;obtain⟨M,N⟩:=uW hk;obtain⟨p,q,H,I,rfl⟩:=Dq f.length he;have C:=Am hk;rw[C9]at C;have K:=Al he;have h:∀(o:Array Value) (g:List Value),g.length=a.length->(∀i,i<g.length->o[k*f.length+i]? =g[i]?)->(part e o (k*f.length)).run P w=.ok (.agg (g.take f.length).toArray) w:=by
   intro o g U y;obtain⟨Q,O,J,_⟩:=D;have L:P.cellsOf e=f.length:=by rw[<-s];simp[Program.cellsOf,r]
   have B:(isAgg e).run P w=.ok true w:=(by simp[isAgg,run_underlying J]);have F:(sizeOf e).run P w=.ok f.length w:=(by simp[sizeOf,typeInfo,run_program,r,s]);simp only[part,Sem.run_bind,B,Result.andThen_ok,if_true,F,Sem.run_pure];congr 2;apply Array.ext_getElem?;intro i;rw[Array.getElem?_extract,show(g.take f.length).toArray[i]? =(g.take f.length)[i]? from bA,A0];by_cases t:i<f.length
   .have A:=y i aD;have S:k*f.length+i<o.size:=by
     rw[A1 aD]at A;exact(A5.1 A).1
    rw[if_pos aD,if_pos t,A]
   .rw[if_neg aD,if_neg t]
  simp only[D7,Op.eqItems,Sem.run_bind,h o g hul y,h z n aD hy,Result.andThen_ok];have G:=zC (w:=w) (E:=E) D d (us:=g.take f.length) (vs:=n.take f.length) H M (by simp[hul]) (by simp[hvl])
   (λi c v j l=>hup i c v (by rw[A0]at j;split at j<;>simp_all) (by rw[A0]at l;split at l<;>simp_all))
   (λi c v j l=>hvp i c v (by rw[A0]at j;split at j<;>simp_all) (by rw[A0]at l;split at l<;>simp_all))
  rw[G];simp only[Result.andThen_ok];have u:=BV r s D d o z m (k+1) (a.drop f.length) (b.drop f.length) q (g.drop f.length) (n.drop f.length) I N (by simp[hul]) (by simp[hvl])
   (λi c v j l=>hup (f.length+i) c v (by simpa using j) (by simpa using l)) (λi c v j l=>hvp (f.length+i) c v (by simpa using j) (by simpa using l))
   (λi r=>by simp at r;rw[A4,<-y _ aD];congr 1;rw[A9];omega)
   (λi r=>by simp at r;rw[A4,<-hy _ aD];congr 1;rw[A9];omega)
  cases p
  .simp
  .simp only[D9,A7,if_false,E0];exact u
theorem zD{e:TypeId}{k:TK}(f:gP P e k)(d:Nat)(o r:Array Value):∀(m j:Nat) (a b:List DV) (c:Bool) (g h:List Value),
 fX a b=some c->bV (B1 m k) a=true->g.length=a.length->h.length=b.length->
 (∀(i:Nat) (c:DV) (v:Value),a[i]? =some c->g[i]? =some v->RD w E c v)->(∀(i:Nat) (c:DV) (v:Value),b[i]? =some c->h[i]? =some v->RD w E c v)->
 (∀i,i<g.length->o[j+i]? =g[i]?)->(∀i,i<h.length->r[j+i]? =h[i]?)->
 (Op.eqItems (d+2) e 1 o r (E2 j m)).run P w=.ok c w
 |0,j,a,b,c,g,h,he,hk,_,_,_,_,_,_=>by
  have:a=[]:=by cases a<;>simp_all[bV]
  subst this;have:b=[]:=B2 (Al he).symm;subst this;simp only[fX,Option.some.injEq]at he;subst he;simp[Op.eqItems]
 |m+1,j,a,b,c,g,h,he,hk,hul,hvl,hup,hvp,hx,hy=>by
  rw[C7]at hk
  match a,b,g,h,hul,hvl with
  |x::a,y::b,u::g,v::h,hul,hvl=>
   simp only[bV,C0]at hk;simp only[fX]at he;cases n:FB x y with
   |none=>simp[n]at he
   |some p=>
    cases s:fX a b with
    |none=>simp[n,s]at he
    |some q=>
     simp only[n,s,Option.some.injEq]at he;subst he;have A:=uV (P:=P) (w:=w) f (cs:=o) (i:=j*1) (v:=u) (by have:=hx 0 bA;simpa using this);have B:=uV (P:=P) (w:=w) f (cs:=r) (i:=j*1) (v:=v) (by have:=hy 0 bA;simpa using this);have C:=FE (P:=P) (w:=w) (d+1) f n hk.1 (hup 0 x u rfl rfl) (hvp 0 y v rfl rfl);have l:=zD f d o r m (j+1) a b q g h s hk.2 (by simpa using hul) (by simpa using hvl)
      (λi c v t z=>hup (i+1) c v (by simpa using t) (by simpa using z)) (λi c v t z=>hvp (i+1) c v (by simpa using t) (by simpa using z))
      (λi D=>by have:=hx (i+1) kH;rw[show j+1+i=j+(i+1)by omega,this];simp)
      (λi D=>by have:=hy (i+1) kH;rw[show j+1+i=j+(i+1)by omega,this];simp)
     simp only[D7,Op.eqItems,Sem.run_bind,A,B,Result.andThen_ok,C];cases p
     .simp
     .simp only[D9,A7,if_false,E0];exact l
  |[],_,_,_,_,_=>simp[bV]at hk
  |_::_,[],_,_,_,_=>simp[fX]at he
theorem Lt{t:TypeId}{A:List TK}(h:NX P t A)(d:Nat){a b:List DV}{c:Bool}{o p:List Value}(y:fX a b=some c)(z:bV A a=true)(g:o.length=a.length)(l:p.length=b.length)
 (j:∀(i:Nat) (c:DV) (v:Value),a[i]? =some c->o[i]? =some v->RD w E c v)(m:∀(i:Nat) (c:DV) (v:Value),b[i]? =some c->p[i]? =some v->RD w E c v):
 (Op.equalIn (d+3) t (.agg o.toArray) (.agg p.toArray)).run P w=.ok c w:=by
 obtain⟨n,e,C,x,B,r,f,s,rfl⟩:=h;have q:P.cellsOf e=x.length:=by rw[<-f];simp[Program.cellsOf,r]
 rw[run_equalIn_array w (d+2) _ _ B r,q,List.range_eq_range'];rcases s with s|⟨k,rfl,u⟩
 rotate_left
 .exact zD u d _ _ n 0 a b c o p y (by rw[show B1 n k=(B1 n [k]).flatten by simp];exact z) g l j m (λi _=>bA) (λi _=>bA)
 exact BV r f s d _ _ n 0 a b c o p y z g l j m (λi _=>bA) (λi _=>bA)
theorem Dr{t:TypeId}{j:List TK}(h:sF P t j\/NX P t j){a b:List DV}{c:Bool}{k l:List Value}(m:fX a b=some c)(n:bV j a=true)(d:k.length=a.length)(f:l.length=b.length)
 (e:∀(i:Nat) (c:DV) (v:Value),a[i]? =some c->k[i]? =some v->RD w E c v)(g:∀(i:Nat) (c:DV) (v:Value),b[i]? =some c->l[i]? =some v->RD w E c v):
 (Op.equalIn 10000 t (.agg k.toArray) (.agg l.toArray)).run P w=.ok c w:=by
 rcases h with h|h
 .exact zC h 9998 m n d f e g
 .exact Lt h 9997 m n d f e g
theorem Xd(hT:fW P T)(m:BinOp)(t:TypeId)(u A:Operand){x y:LV}{B C:Value}(j:R w E β H x B)(l:R w E β H y C)(f:(aR (T t).eqk (T t).k.isBool m x y).ok)(I:(T t).eqk≠[]->(T t).k.isNone=false):
 ∃v,((do eqGuard m t u A B C;binOp m t B C:Sem Value)).run P w=.ok v w/\(aR (T t).eqk (T t).k.isBool m x y).up=[]/\R w E β H (aR (T t).eqk (T t).k.isBool m x y).v v:=by
 have p:=f;unfold aR at f;split at f
 .rename_i k a K b;have:=j.int;subst this;have:=l.int;subst this;obtain⟨v,D,F,G⟩:=Xb (P:=P) (w:=w) (E:=E) (β:=β) (H:=H) m t (T t).eqk (T t).k.isBool p;exact⟨v,by rw[Sem.run_bind,Bj];exact D,F,G⟩
 .rename_i a b;have:=j.str;subst this;have:=l.str;subst this;simp only[Sem.run_bind,Qn,Result.andThen_ok];unfold aR;cases m with
 |add=>
  simp only[kJ.cond]at f|-;refine⟨_,?_,by trivial,xR _⟩;have:=run_string_add_sum (P:=P) (w:=w) ⟨a.toArray⟩ ⟨b.toArray⟩ (by simpa [ByteArray.size]using f);simp only[binOp];rw[this];congr 2
 |lss=>
  simp only[kJ.plain]at f|-;exact⟨_,by simp[binOp,Op.stringOp,ByteArray.toList_eq],by trivial,dW _⟩
 |leq=>
  simp only[kJ.plain]at f|-;exact⟨_,by simp[binOp,Op.stringOp,ByteArray.toList_eq],by trivial,dW _⟩
 |gtr=>
  simp only[kJ.plain]at f|-;exact⟨_,by simp[binOp,Op.stringOp,ByteArray.toList_eq],by trivial,dW _⟩
 |geq=>
  simp only[kJ.plain]at f|-;exact⟨_,by simp[binOp,Op.stringOp,ByteArray.toList_eq],by trivial,dW _⟩
 |eql=>
  simp only[kJ.plain]at f|-;exact⟨_,by simp[binOp,Op.stringOp,ByteArray.toList_eq],by trivial,dW _⟩
 |neq=>
  simp only[kJ.plain]at f|-;exact⟨_,by simp[binOp,Op.stringOp,ByteArray.toList_eq],by trivial,dW _⟩
 |sub|mul|quo|rem|and|or|xor|andNot|shl|shr=>exact f.elim
 .rename_i a b;unfold aR;cases m with
 |eql=>
  simp only at f|-;cases e:fX a b with
  |none=>rw[e]at f;exact f.elim
  |some c=>
   rw[e]at f;simp only[kJ.cond]at f|-;obtain⟨o,s⟩:=f;have g:(T t).eqk≠[]:=by intro h;rw[h]at o;cases a<;>simp_all[bV]
   obtain⟨q,r⟩:=(hT t (I g)).eqk g;cases j with
  |d _ _ j=>cases j with
   |agg _ us hul _ hup=>cases l with
    |d _ _ l=>cases l with
     |agg _ vs hvl _ hvp=>
       have i:=Dr (w:=w) (E:=E) r e o hul hvl hup hvp;refine⟨_,?_,by trivial,dW _⟩;rw[Sem.run_bind,run_eqGuard_agg w _ t u A _ _ q];simp only[Result.andThen_ok];rw[run_eql_struct,i];rfl
 |neq=>
  simp only at f|-;cases e:fX a b with
  |none=>rw[e]at f;exact f.elim
  |some c=>
   rw[e]at f;simp only[kJ.cond]at f|-;obtain⟨o,s⟩:=f;have g:(T t).eqk≠[]:=by intro h;rw[h]at o;cases a<;>simp_all[bV]
   obtain⟨q,r⟩:=(hT t (I g)).eqk g;cases j with
  |d _ _ j=>cases j with
   |agg _ us hul _ hup=>cases l with
    |d _ _ l=>cases l with
     |agg _ vs hvl _ hvp=>
       have i:=Dr (w:=w) (E:=E) r e o hul hvl hup hvp;refine⟨_,?_,by trivial,dW _⟩;rw[Sem.run_bind,run_eqGuard_agg w _ t u A _ _ q];simp only[Result.andThen_ok];rw[run_neq_struct,i];rfl
 |add|sub|mul|quo|rem|and|or|xor|andNot|shl|shr|lss|leq|gtr|geq=>exact f.elim
 .rename_i a b;have:=j.bool;subst this;have:=l.bool;subst this;simp only[Sem.run_bind,Ls,Result.andThen_ok];unfold aR;have n:(T t).k.isBool=true->P.underlying t=some .bool:=λh=>by
   obtain⟨J,d,z,D,F,G,_⟩:=hT.parts (t:=t) (by cases e:(T t).k<;>simp_all[TK.isBool,TK.isNone]);cases e:(T t).k<;>simp_all[TK.isBool];cases d<;>simp_all[uL]
  cases m with
  |eql=>
   simp only[kJ.cond]at f|-;exact⟨_,by simp[binOp,Op.equal,Op.maxDepth,run_equalIn_bool' w 9999 t a b (n f)],by trivial,dW _⟩
  |neq=>
   simp only[kJ.cond]at f|-;exact⟨_,by simp[binOp,Op.equal,Op.maxDepth,run_equalIn_bool' w 9999 t a b (n f)],by trivial,dW _⟩
  |add|sub|mul|quo|rem|and|or|xor|andNot|shl|shr|lss|leq|gtr|geq=>exact f.elim
 .exact f.elim
theorem YZ(hT:fW P T)(m:dV w0 X H β w)(e:∀x,R w (Ex X β H) β H (g x) (a.eval x)){b:BinOp}{t u:TypeId}{x y:Operand}(i:o.op=.binOp b t x y u)
 (d:(aR (T t).eqk (T t).k.isBool b (g x) (g y)).ok)(j:(T t).eqk≠[]->(T t).k.isNone=false):lT P w0 X H β w a o (aR (T t).eqk (T t).k.isBool b (g x) (g y)):=by
 obtain⟨v,f,c,h⟩:=Xd hT b t x y (e x) (e y) d j;refine cV (v:=v) (w':=w) (β':=β) ?_ (by rw[c];exact m) (by rw[c];exact fB.refl) (by rw[c];exact h);unfold execOp;simp only[i];rw[Sem.run_bind,f];rfl
theorem Za(hT:fW P T)(m:dV w0 X H β w)(d:∀x,R w (Ex X β H) β H (g x) (a.eval x)){c:BinOp}{t u:TypeId}{x y:Operand}(e:o.op=.binOp c t x y u)
 (f:(T t).k.isPtr=true)(b:(xJ c (g x) (g y)).ok):lT P w0 X H β w a o (xJ c (g x) (g y)):=by
 exact(show False from b).elim
theorem aAn(m:dV w0 X H β w)(h:∀x,R w (Ex X β H) β H (g x) (a.eval x)){f:UnOp}{t:TypeId}{x:Operand}(d:o.op=.unOp f t x)
 (b:(bK f (g x)).ok):lT P w0 X H β w a o (bK f (g x)):=by
 have e:=h x;generalize g x=lx at*;unfold bK at*;split at b
 .have:=e.bool;exact lT.plain m (v:=.bool _) (by simp[execOp,d,this,Op.unary]) (dW _)
 .rename_i k n;have:=e.int;exact lT.plain m (v:=.int k _) (by simp only[execOp,d,this,Op.unary];rfl) (cY _ _)
 .rename_i k n;have:=e.int;by_cases c:k=.i64
  .subst c;simp only[if_true,kJ.cond]at b|-;exact lT.plain m (v:=.int .i64 (0-n)) (by simp only[execOp,d,this,Op.unary,Op.intArith,IntWalk.i64_in _ b];rfl) (cY _ _)
  .simp only[if_neg c,kJ.plain]at b|-;exact lT.plain m (v:=.int k (k.wrap (0-n))) (by simp only[execOp,d,this,Op.unary,Op.intArith];rfl) (cY _ _)
 .exact b.elim
theorem R.bools{x:LV}{v:Value}(b:R w E β H x v)(a:bok x=true):v=.bool (Ql x):=by
 unfold bok at a;split at a
 .cases b with|when _ _ _ h _=>exact(h a).bool
 .exact b.bool
 .cases a
theorem Dt(m:dV w0 X H β w){c x y:Operand}{g e f:LV}(i:R w (Ex X β H) β H g (a.eval c))(j:R w (Ex X β H) β H e (a.eval x))(k:R w (Ex X β H) β H f (a.eval y))(h:o.op=.pick c x y)
 (b:(nV g e f).ok):lT P w0 X H β w a o (nV g e f):=by
 unfold nV at*;split at b
 .rename_i p;have d:=i.bool;simp only[kJ.cond]at b|-;cases p
  .have:=k.bools (b.2 rfl);exact lT.plain m (v:=.bool (Ql f)) (by simp[execOp,h,d,this,asBool]) (dW _)
  .have:=j.bools (b.1 rfl);exact lT.plain m (v:=.bool (Ql e)) (by simp[execOp,h,d,this,asBool]) (dW _)
 .exact b.elim
theorem Xe(m:dV w0 X H β w)(b:∀x,R w (Ex X β H) β H (g x) (a.eval x)){c x y:Operand}(e:o.op=.pick c x y)
 (d:(nV (g c) (g x) (g y)).ok):lT P w0 X H β w a o (nV (g c) (g x) (g y)):=Dt m (b c) (b x) (b y) e d
theorem cJ(H:Nat->bJ)(d:Nat)(x:bJ):cD H [(d,x)]=cQ H d x:=by funext j;simp[cD,cQ]
theorem jX(H:Nat->bJ)(d:Nat)(x:bJ)(l:List (Nat×bJ)):cD H ((d,x)::l)=cQ (cD H l) d x:=by funext j;simp[cD,cQ]
theorem NZ(m:dV w0 X H β w){d:Nat}(k:H d=.absent){cs:List LV}{us:List Value}(l:us.length=cs.length)(f:∀u∈us,u.oneCell'=true)(h:∀(i:Nat) (c:LV) (v:Value),cs[i]? =some c->us[i]? =some v->R w (Ex X β H) β H c v)(e:TypeId):
 dV w0 X (cQ H d (.box false cs)) (cQ β d (some w.heap.size)) (w.alloc (.cells us.toArray e))/\fB X H β w (cQ H d (.box false cs)) (cQ β d (some w.heap.size)) (w.alloc (.cells us.toArray e)):=
 m.newObj ((Ah.refl _ _).alloc (A6 _) _) k (some w.heap.size) (λb a=>by injection a with a;subst a;simp) λ_ g=>by
  unfold dS;rw[aW];exact⟨w.heap.size,e,us,by rw[aW],heap_alloc_new w _,l,f,λi c v j n=>g _ _ (h i c v j n)⟩
theorem Oa(d b:Nat)(cs:List LV):R w E (cQ β d (some b)) (cQ H d (.box false cs)) (.bx d 0) (.pointer (some ⟨b,0,none⟩)):=
 .bx d 0 b false cs (by rw[aW]) (by rw[aW])
theorem Zb(m:dV w0 X H β w)(c:∀x,R w (Ex X β H) β H (g x) (a.eval x)){t:TypeId}{x:Operand}(h:o.op=.box t x){d:Nat}(b:H d=.absent/\iX H (g x)=true):
 lT P w0 X H β w a o ⟨.bx d 0,H d=.absent/\iX H (g x)=true,[(d,.box false (dT (g x)))]⟩:=by
 obtain⟨e,f⟩:=(c x).cells b.2;have:=NZ m b.1 e ((c x).cells1 b.2) f t;refine cV (v:=.pointer (some ⟨w.heap.size,0,none⟩)) (w':=w.alloc (.cells (a.eval x).cells.toList.toArray t)) (β':=cQ β d (some w.heap.size)) ?_ ?_ ?_ ?_
 .simp[execOp,h,Instr.box,newVar,newRow]
 .simp only[cJ];exact this.1
 .simp only[cJ];exact this.2
 .simp only[cJ];exact Oa _ _ _
theorem SS(hT:fW P T)(m:dV w0 X H β w){t:TypeId}(k:o.op=.alloc t){d:Nat}(b:H d=.absent/\(T t).k.isNone=false):
 lT P w0 X H β w a o ⟨.bx d 0,H d=.absent/\(T t).k.isNone=false,[(d,.box false ((T t).zero.map pC))]⟩:=by
 obtain⟨n,p,z,h,q,r,s,x,j,e⟩:=hT.parts b.2;have:=NZ m b.1 (cs:=(T t).zero.map pC) (us:=z.cells.toList) (by simp[e]) (λu l=>(hT t b.2).one u (by rw[<-e];exact l)) (λi c v f g=>by
  rw[e]at g;simp[g]at f;subst f;exact R.const v) t
 refine cV (v:=.pointer (some ⟨w.heap.size,0,none⟩)) (w':=w.alloc (.cells z.cells.toList.toArray t)) (β':=cQ β d (some w.heap.size)) ?_ ?_ ?_ ?_
 .simp[execOp,k,Instr.alloc,zeroValue,typeInfo,h,j,newVar,newRow]
 .simp only[cJ];exact this.1
 .simp only[cJ];exact this.2
 .simp only[cJ];exact Oa _ _ _
end
end
section
open Go.RowKit
section
variable{P:Program} {T:TypeId->cW} {w0:dE} {X:Nat->Prop} {H:Nat->bJ} {β:Nat->Option Nat} {w:World} {a:Act} {o:Oper} {g:Operand->LV} {E:Nat->Prop}
theorem Zc{d:TypeDesc}{k:TK}(h:uL d k):(match d with| .struct _| .array _ _=>true|_=>false)=k.agg:=by cases d<;>cases k<;>first|rfl|exact False.elim h
theorem FF(hT:fW P T){t:TypeId}(h:(T t).k.isNone=false):(isAgg t).run P w=.ok (T t).k.agg w:=by
 obtain⟨c,d,z,e,a,b,_⟩:=hT.parts h;have:=Zc b;rw[<-this];cases d<;>simp[isAgg,run_underlying a]
theorem cR(hT:fW P T){t:TypeId}(h:(T t).k.isNone=false):(sizeOf t).run P w=.ok (T t).size w:=by
 obtain⟨c,d,z,a,e,f,b,_⟩:=hT.parts h;simp[sizeOf,typeInfo,a,b]
theorem uX(hT:fW P T){t:TypeId}(h:(T t).k.isNone=false){b off:Nat}{us:List Value}(c:us.length=(T t).size)(d:(T t).k.agg=false->(T t).size=1)
 (a:∀(j:Nat) (u:Value),us[j]? =some u->w.cell? ⟨b,off+j,none⟩=some u):
 (loadVar t ⟨b,off,none⟩).run P w=.ok (if(T t).k.agg then .agg us.toArray else us.getD 0 undef) w:=by
 unfold loadVar;rw[Sem.run_bind,FF hT h];simp only[Result.andThen_ok];cases e:(T t).k.agg
 .simp only[A7,if_false]
  match us,c.trans (d e)with
  |[u],_=>
   have:=a 0 u rfl;simp only[E1]at this;simp[this]
 .simp only[if_true,Sem.run_bind,cR hT h,Result.andThen_ok];rw[<-c,run_loadCells_list (P:=P) (w:=w) ⟨b,off,none⟩ us (λj v f=>by rw[Addr.add_lit];exact a j v f)];rfl
theorem CQ{E:Nat->Prop}{cs:List DV}{us:List Value}{a:Bool}{s off:Nat}(n:cs.length<=us.length)(e:∀{i:Nat} (u:Value),us[i]? =some u->i<cs.length->u.oneCell'=true)(k:off+s<=cs.length)(l:a=false->s=1)
 (h:∀(i:Nat) (c:DV) (v:Value),cs[i]? =some c->us[i]? =some v->RD w E c v):
 RD w E (Dk a s off cs) (if a then .agg ((us.drop off).take s).toArray else((us.drop off).take s).getD 0 undef):=by
 unfold Dk;cases a
 .simp only[A7,if_false];have g:=l rfl;subst g;have e:off<cs.length:=aD;have j:off<us.length:=aD;refine h off _ _ (by rw[A8,A1 e];rfl) ?_;simp[A8,A4,j]
 .simp only[if_true];refine .agg _ _ kH (λu m=>?_) λi c v b d=>?_
  .obtain⟨i,f,rfl⟩:=C2 m;simp at f;simp only[D2,D3];exact e _ (A1 _) aD
  rw[A0]at b d;split at b
  .rename_i f;rw[if_pos f]at d;rw[A4]at b d;exact h _ c v b d
  .cases b
theorem Hl{cs:List LV}{us:List Value}{a:Bool}{s off:Nat}(n:cs.length=us.length)(e:∀u∈us,u.oneCell'=true)(k:off+s<=cs.length)(l:a=false->s=1)
 (h:∀(i:Nat) (c:LV) (v:Value),cs[i]? =some c->us[i]? =some v->R w E β H c v):
 R w E β H (FC a s off cs) (if a then .agg ((us.drop off).take s).toArray else((us.drop off).take s).getD 0 undef):=by
 unfold FC;cases a
 .simp only[A7,if_false];have f:=l rfl;subst f;have e:off<cs.length:=aD;have g:off<us.length:=aD;refine h off _ _ (by rw[A8,A1 e];rfl) ?_;simp[A8,A4,g]
 .simp only[if_true];refine R.mkAgg kH (λu m=>e u (B0 (B6 m))) λi c v b d=>?_;rw[A0]at b d;split at b
  .rename_i j;rw[if_pos j]at d;rw[A4]at b d;exact h _ c v b d
  .cases b
theorem sG{s:Nat}{a:List DV}{k:Nat}(b:k<a.length)(c:∀x∈a,(aQ x).length=s):(aQ (a.getD k default)).length=s/\∀j,j<s->(bZ a)[k*s+j]? =(aQ (a.getD k default))[j]? :=by
 have e:a.getD k default=a[k]:=by simp[A8,b]
 refine⟨by rw[e];exact c _ (D6 b),λj d=>?_⟩;rw[IE c k j d,e,A1 b];rfl
theorem Xf(hT:fW P T)(m:dV w0 X H β w)(Z:∀x,R w (Ex X β H) β H (g x) (a.eval x)){t:TypeId}{x:Operand}(ho:o.op=.load t x)(ht:(T t).k.isNone=false)
 (f:(nW H (T t) (g x)).ok):lT P w0 X H β w a o (nW H (T t) (g x)):=by
 have C:=Z x;generalize g x=lx at*;generalize G:a.eval x=vx at C;unfold nW at*;have z:∀(b l:Nat) (r:List Value),vx=.pointer (some ⟨b,l,none⟩)->r.length=(T t).size->((T t).k.agg=false->(T t).size=1)->
  (∀(j:Nat) (u:Value),r[j]? =some u->w.cell? ⟨b,l+j,none⟩=some u)->(execOp a.eval o).run P w=.ok (.value (if(T t).k.agg then .agg r.toArray else r.getD 0 undef)) w:=by
  intro b l r L hl K I;have:=uX (P:=P) (w:=w) hT ht hl K I;have O:=G.trans L;simp only[execOp,ho,Instr.loadAt,Instr.sureAddr,O,Sem.run_bind,Sem.run_pure,Result.andThen_ok,this]
 split at f
 .rename_i id l;split at f
  .rename_i W V A;simp only[kJ.cond]at f|-;have n:=m.obj id;simp only[dS,A]at n;obtain⟨b,e,r,N,q,y,M,B⟩:=n;cases C with
   |bx _ _ b' _ _ _ hb'=>
    rw[N]at hb';injection hb' with hb';subst hb'
    refine lT.plain m (z b l ((r.drop l).take (T t).size) rfl kH f.2 (λj u h=>?_)) (Hl y.symm M f.1 f.2 B);rw[cell_of_row w b _ r.toArray e (0,0) q];rw[A0]at h;split at h
    .simpa using h
    .cases h
   |bxdead _ _ _ hd=>rw[A]at hd;cases hd
  .exact f.elim
 .rename_i V;simp only[kJ.cond]at f|-;cases C with
  |d _ _ C=>cases C with
   |ro _ b l r hnb hul M hlt hcell B=>
    refine lT.plain m (z b l ((r.drop 0).take (T t).size) rfl kH f.2 (λj u h=>?_)) (.d _ _ (CQ aD (λu h _=>M u (C6 h)) aD f.2 B));rw[A0]at h;split at h
    .exact hcell j u (by simpa using h)
    .cases h
 .rename_i id k j;split at f
  .rename_i W s U A;simp only[kJ.cond]at f|-;obtain⟨Q,hj,K⟩:=f;have n:=m.obj id;simp only[dS,A]at n;obtain⟨S,D,n⟩:=n;obtain⟨F,E⟩:=sG Q D;cases C with
   |rp _ _ _ b' _ _ _ hH' hb'=>
    rw[A]at hH';injection hH' with _ e1 e2;subst e1;subst e2
    rcases n with⟨hn,_⟩|⟨b,e,p,N,q,y,B⟩
    .rw[hn]at hb';cases hb'
    .rw[N]at hb';injection hb' with hb';subst hb'
     have a0:k*s+s<=U.length*s:=by have:(k+1)*s<=U.length*s:=B7 _ Q;rw[A9,C5]at this;exact this
     have Y:p.size=p.toList.length:=bA;refine lT.plain m (z b (k*s+j) (((p.toList.drop (k*s)).drop j).take (T t).size) rfl kH K (λi u h=>?_))
      (.d _ _ (CQ (us:=p.toList.drop (k*s)) (by rw[F,List.length_drop];omega) (λ{i} u h J=>?_) hj K λi c v I L=>?_))
     .rw[cell_of_row w b _ p e (0,0) q];rw[A0]at h;split at h
      .simpa [C1]using h
      .cases h
     .rw[F]at J;rw[A4]at h;exact(B _ _ u (by rw[E i J];exact A1 aD) (by simpa using h)).1
     .have J:i<s:=by have:=(C3.1 I).1;omega
      rw[A4]at L;exact(B _ c v (by rw[E i J];exact I) (by simpa using L)).2
   |rpdead _ _ _ _ hd=>rw[A]at hd;cases hd
  .exact f.elim
 .exact f.elim
theorem An(hT:fW P T){t:TypeId}(h:(T t).k.isNone=false){b off:Nat}{v:Value}(i:v.cells.toList.length=(T t).size)(g:∀u∈v.cells.toList,u.oneCell'=true)
 {a:Array Value}{e:TypeId}(c:w.heap[b]? =some (.cells a e (0,0)))(d:off+v.cells.toList.length<=a.size):
 (storeVar t ⟨b,off,none⟩ v).run P w=.ok () (w.setRow b (bE off a.toList v.cells.toList).toArray):=by
 unfold storeVar;rw[Sem.run_bind,cR hT h];have f:v.cells.size=(T t).size:=by simpa using i
 simp only[Result.andThen_ok,f,ne_eq,not_true_eq_false,if_false];have:=run_storeCells_at P b off e v.cells.toList 0 a w c (by simpa using d) g;simpa [bE]using this
theorem fC{α:Type}{off:Nat}{cs new:List α}(h:off+new.length<=cs.length):(bE off cs new).length=cs.length:=by simp[bE];omega
theorem gQ{α:Type}{off:Nat}{cs new:List α}(h:off+new.length<=cs.length)(i:Nat):(bE off cs new)[i]? =if i<off then cs[i]? else if i<off+new.length then new[i-off]? else cs[i]? :=by
 unfold bE;have c:(cs.take off).length=off:=kH;by_cases a:i<off
 .rw[if_pos a,List.append_assoc,B9 aD,A0,if_pos a]
 .rw[if_neg a];by_cases b:i<off+new.length
  .rw[if_pos b,B9 kH,B5 aD,c]
  .rw[if_neg b,B5 kH,A4];congr 1;simp;omega
theorem Ao{α:Type}{off:Nat}{c b:List α}{p:α->Prop}(d:∀x∈c,p x)(e:∀x∈b,p x):∀x∈bE off c b,p x:=by
 intro x a;simp only[bE,List.mem_append]at a;rcases a with(a|a)|a
 .exact d x (B6 a)
 .exact e x a
 .exact d x (B0 a)
theorem Du{α γ:Type}{off:Nat}{e a:List α}{g j:List γ}{p:α->γ->Prop}(o:g.length=e.length)(n:j.length=a.length)(m:off+a.length<=e.length)
 (k:∀(i:Nat) c u,e[i]? =some c->g[i]? =some u->p c u)(l:∀(i:Nat) c u,a[i]? =some c->j[i]? =some u->p c u):
 ∀(i:Nat) c u,(bE off e a)[i]? =some c->(bE off g j)[i]? =some u->p c u:=by
 intro i c u d b;rw[gQ m]at d;rw[gQ aD,n]at b;split at d
 .rename_i h;rw[if_pos h]at b;exact k i c u d b
 .rename_i h;rw[if_neg h]at b;split at d
  .rename_i f;rw[if_pos f]at b;exact l _ c u d b
  .rename_i f;rw[if_neg f]at b;exact k i c u d b
theorem qU{r:kJ}{w':World}{β':Nat->Option Nat}(d:(execOp a.eval o).run P w=.ok .skip w')(m:dV w0 X (cD H r.up) β' w')(b:fB X H β w (cD H r.up) β' w')
 (e:r.v=.junk):lT P w0 X H β w a o r:=by
 intro K Q c;unfold Oper.wp;rw[d];exact c undef w' β' m b (by rw[e];exact .junk _)
theorem IG(hT:fW P T)(m:dV w0 X H β w)(D:∀x,R w (Ex X β H) β H (g x) (a.eval x)){t:TypeId}{x y:Operand}(M:o.op=.store t x y)(O:(T t).k.isNone=false)
 {id d:Nat}(Q:g x=.bx id d){l:List LV}(u:H id=.box false l){c:Prop}(E:d+(T t).size<=l.length/\(dT (g y)).length=(T t).size/\iX H (g y)=true):
 lT P w0 X H β w a o ⟨.junk,c,[(id,.box false (bE d l (dT (g y))))]⟩:=by
 have k:=D x;rw[Q]at k;generalize s:a.eval x=vx at k;obtain⟨K,L,p⟩:=E;obtain⟨B,C⟩:=(D y).cells p;have n:=(D y).cells1 p;have q:=m.obj id;simp only[dS,u]at q;obtain⟨b,e,I,z,f,j,J,N⟩:=q;cases k with
 |bxdead _ _ _ hd=>rw[u]at hd;cases hd
 |bx _ _ b' _ _ _ hb'=>
  rw[z]at hb';injection hb' with hb';subst hb'
  have r:=An (P:=P) (w:=w) hT O (b:=b) (off:=d) (v:=a.eval y) aD n f (by rw[D4];omega);have h:d+(dT (g y)).length<=l.length:=aD;have:=m.rewrite (id:=id) (b:=b) (o':=.box false (bE d l (dT (g y)))) (cur':=(bE d I (a.eval y).cells.toList).toArray) (by rw[u];rfl) z f
   (by simp only[D4];exact fC aD) (.inl ⟨_,_,u,rfl⟩) (λ_ G=>by
     unfold dS;rw[aW];refine⟨b,e,_,z,setRow_heap w b _ _ e (0,0) f,by rw[fC aD,fC h];exact j,Ao J n,?_⟩;exact Du j B h (λi c v A F=>G _ _ (N i c v A F)) (λi c v A F=>G _ _ (C i c v A F)))
  refine qU (w':=w.setRow b (bE d I (a.eval y).cells.toList).toArray) (β':=β) ?_ (by simp only[cJ];exact this.1) (by simp only[cJ];exact this.2) rfl;simp only[execOp,M,Instr.storeAt,Instr.sureAddr,s,Sem.run_bind,Sem.run_pure,Result.andThen_ok,r]
theorem ST{s:Nat}{a:List DV}(c:∀x∈a,(aQ x).length=s){k:Nat}(b:k<a.length){z:DV}(g:(aQ z).length=s):bZ (a.set k z)=bE (k*s) (bZ a) (aQ z):=by
 induction a generalizing k with
 |nil=>simp at b
 |cons x t ih=>
  have d:=c x bA;cases k with
  |zero=>simp[bZ,bE,g,<-d]
  |succ k=>
   have:=ih (λy f=>c y (by simp[f])) (k:=k) (by simpa using b);simp only[List.set_cons_succ,bZ,B4]at*;rw[this];unfold bE;have e:(k+1)*s=(aQ x).length+k*s:=by rw[d,A9];omega
   rw[e,List.take_length_add_append,C1,List.drop_length_add_append];simp
theorem mS:∀(n:Nat) (l:LV) (x:DV),close H n l=some x->∀id∈bX H n l,(H id).live=true:=by
 intro n;induction n with
 |zero=>intro l x h;simp[close]at h
 |succ n ih=>
  intro l x h id a;have b:∀(e:List LV) (d:List DV),cS (e.map (close H n))=some d->id∈e.flatMap (bX H n)->(H id).live=true:=by
   intro e d h a;obtain⟨q,j⟩:=jF h;obtain⟨c,o,a⟩:=D5.1 a;obtain⟨i,p,rfl⟩:=C2 o;exact ih _ _ (j i _ (d[i]'aD) (A1 p) (A1 aD)) id a
  cases l with
  |agg e=>
   simp only[close,A3]at h;obtain⟨d,h,_⟩:=h;exact b e d h (by simpa [bX]using a)
  |fn f e=>
   simp only[close,A3]at h;obtain⟨d,h,_⟩:=h;exact b e d h (by simpa [bX]using a)
  |bm f e=>
   simp only[close,A3]at h;obtain⟨d,h,_⟩:=h;exact b e d h (by simpa [bX]using a)
  |ow i k m=>
   simp[bX]at a;subst a;simp only[close]at h;cases g:H id<;>simp_all[bJ.live]
  |oc i k m c=>
   simp[bX]at a;subst a;simp only[close]at h;cases g:H id<;>simp_all[bJ.live]
  |mp i=>
   simp[bX]at a;subst a;simp only[close]at h;cases g:H id<;>simp_all[bJ.live]
  |bx i off=>
   simp only[close]at h;simp only[bX]at a;cases g:H i with
   |box fz e=>
    simp only[g,A3]at h;obtain⟨d,h,_⟩:=h;simp only[g,C8]at a;rcases a with rfl|a
    .rw[g];rfl
    .exact b _ d h a
   |_=>simp[g]at a
  |_=>simp[bX]at a
theorem fZ(m:dV w0 X H β w){ids:List Nat}{l:LV}{x:DV}{v:Value}(h:close H 8 l=some x)(c:∀id∈bX H 8 l,id∈ids)(k:R w (Ex X β H) β H l v):
 RD w (Ex X β (cD H (bP H ids))) x v:=by
 refine nZ m.obj (λ_ _=>(m.freeze ids).2.D) 8 l x v h (λid hid b hb d=>?_) k;have e:=mS 8 l x h id hid;have j:=m.fresh id b e hb;rcases d with d|⟨i,a,f⟩
 .rcases j.1 with a|a
  .have:=(m.xold.1 b d).1;omega
  .exact(m.xold.1 b d).2 a.1
 .have g:(H i).live=true:=by
   have:=bS a;rw[eY]at this;split at this
   .rwa[BU]at this
   .exact this
  have:=m.inj i id b g e f hb;subst this;rw[eY,if_pos (c i hid),Dp]at a;cases a
theorem BW(hT:fW P T)(m:dV w0 X H β w)(hg:∀x,R w (Ex X β H) β H (g x) (a.eval x)){t:TypeId}{x y:Operand}(ho:o.op=.store t x y)(ht:(T t).k.isNone=false)
 {id k j:Nat}(hx:g x=.rp id k j){s:Nat}{n:List DV}(W:H id=.row false s n){z:DV}(hz:close H 8 (g y)=some z){c:Prop}(a4:id∉bX H 8 (g y))(hk:k<n.length)(a5:j+(T t).size<=s)
 (a7:(aQ z).length=(T t).size){S:DV}(Q:(aQ S).length=s)(u:aQ S=bE j (aQ (n.getD k default)) (aQ z)):
 lT P w0 X H β w a o ⟨.junk,c,(id,.row false s (n.set k S))::bP H (bX H 8 (g y))⟩:=by
 have E:=hg x;rw[hx]at E;generalize N:a.eval x=vx at E;have C:cD H (bP H (bX H 8 (g y))) id=.row false s n:=by rw[eY,if_neg a4];exact W
 obtain⟨m1,g1⟩:=m.freeze (bX H 8 (g y));have O:=fZ m hz (λ_ h=>h) (hg y);obtain⟨Z,a0⟩:=O.cells;have F:=O.cells1;have B:=m1.obj id;simp only[dS,C]at B;obtain⟨J,l,B⟩:=B;cases E with
 |rpdead _ _ _ _ A=>rw[W]at A;cases A
 |rp _ _ _ b' _ _ _ hH2 hb'=>
  rw[W]at hH2;injection hH2 with _ e1 e2;subst e1;subst e2
  rcases B with⟨hn,_⟩|⟨b,e,f,Y,p,I,hp⟩
  .rw[hn]at hb';cases hb'
  .rw[Y]at hb';injection hb' with hb';subst hb'
   have a6:k*s+s<=n.length*s:=by have:(k+1)*s<=n.length*s:=B7 _ hk;rw[A9,C5]at this;exact this
   have L:=An (P:=P) (w:=w) hT ht (b:=b) (off:=k*s+j) (v:=a.eval y) aD F p aD;obtain⟨a1,G⟩:=sG hk l;have M:bZ (n.set k S)=bE (k*s+j) (bZ n) (aQ z):=by
    have a3:=flat_len l;rw[ST l hk Q,u];apply List.ext_getElem?;intro i;have D:(bE j (aQ (n.getD k default)) (aQ z)).length=s:=by rw[fC aD];exact a1
    have q1:=gQ (off:=k*s) (cs:=bZ n) (new:=bE j (aQ (n.getD k default)) (aQ z)) aD i;have q2:=gQ (off:=k*s+j) (cs:=bZ n) (new:=aQ z) aD i;rw[q1,q2,D];by_cases h1:i<k*s
    .rw[if_pos h1,if_pos aD]
    .rw[if_neg h1];by_cases h2:i<k*s+s
     .rw[if_pos aD,gQ aD];by_cases h3:i<k*s+j
      .rw[if_pos aD,if_pos h3,<-G (i-k*s) aD];congr 1;omega
      .rw[if_neg aD,if_neg h3];by_cases h4:i<k*s+j+(aQ z).length
       .rw[if_pos aD,if_pos h4];congr 1;omega
       .rw[if_neg aD,if_neg h4,<-G (i-k*s) aD];congr 1;omega
     .rw[if_neg aD,if_neg aD,if_neg aD]
   have a2:f.toList.length=f.size:=bA;have D:(bE (k*s+j) f.toList (a.eval y).cells.toList).length=f.size:=by rw[fC aD];exact a2
   have K:(bE (k*s+j) f.toList (a.eval y).cells.toList).toArray.size=f.size:=D;have:=m1.rewrite (id:=id) (b:=b) (o':=.row false s (n.set k S)) (cur':=(bE (k*s+j) f.toList (a.eval y).cells.toList).toArray) (by rw[C];rfl) Y p
    K (.inr ⟨s,n,_,C,rfl,bA⟩) (λV _=>by
     unfold dS;rw[aW];refine⟨J,λq hq=>?_,.inr ⟨b,e,_,Y,setRow_heap w b _ _ e (0,0) p,by rw[K];simpa using I,?_⟩⟩
     .rcases List.mem_or_eq_of_mem_set hq with hq|rfl
      .exact l q hq
      .exact Q
     .rw[M];intro i d v A r;have a3:=flat_len l;rw[gQ aD]at A;simp only[List.getElem?_toArray]at r;rw[gQ aD,Z]at r;split at A
      .rename_i h;rw[if_pos h]at r;have:=hp i d v A (by simpa using r);exact⟨this.1,V _ _ this.2⟩
      .rename_i h;rw[if_neg h]at r;split at A
       .rename_i U;rw[if_pos U]at r;exact⟨F v (C6 r),V _ _ (a0 _ d v A r)⟩
       .rename_i U;rw[if_neg U]at r;have:=hp i d v A (by simpa using r);exact⟨this.1,V _ _ this.2⟩)
   refine qU (w':=w.setRow b (bE (k*s+j) f.toList (a.eval y).cells.toList).toArray) (β':=β) ?_ (by simp only[jX];exact this.1) (by simp only[jX];exact g1.trans this.2) rfl;simp only[execOp,ho,Instr.storeAt,Instr.sureAddr,N,Sem.run_bind,Sem.run_pure,Result.andThen_ok,L]
theorem SU(hT:fW P T)(m:dV w0 X H β w)(q:∀x,R w (Ex X β H) β H (g x) (a.eval x)){t:TypeId}{x y:Operand}(v:o.op=.store t x y)(A:(T t).k.isNone=false)
 (b:(iQ H (T t) (g x) (g y)).ok):lT P w0 X H β w a o (iQ H (T t) (g x) (g y)):=by
 cases e:g x with
 |bx id off=>
  rw[e]at b;simp only[iQ]at b|-;cases c:H id with
  |box fz cs=>cases fz with
   |false=>rw[c]at b;exact IG hT m q v A e c b
   |true=>rw[c]at b;exact b.elim
  |_=>rw[c]at b;exact b.elim
 |rp id k j=>
  rw[e]at b;simp only[iQ]at b|-;cases c:H id with
  |row fz s xs=>cases fz with
   |false=>
    rw[c]at b;simp only at b|-;cases l:close H 8 (g y)with
    |none=>rw[l]at b;exact b.elim
    |some z=>
     rw[l]at b;simp only at b|-;have i:=m.obj id;simp only[dS,c]at i;obtain⟨B,d,_⟩:=i;by_cases r:j=0/\(T t).size=s
     .rw[if_pos r]at b|-;obtain⟨f,n,p⟩:=b;obtain⟨h,_⟩:=sG f d;obtain⟨u,D⟩:=r;subst u;refine BW hT m q v A e c l p f aD aD n ?_;unfold bE;rw[List.drop_eq_nil_of_le aD];simp
     .rw[if_neg r]at b|-;obtain⟨f,n,p,E,C⟩:=b;obtain⟨h,_⟩:=sG f d;exact BW hT m q v A e c l C f n p (by show(bE j (aQ (xs.getD k default)) (aQ z)).length=s;rw[fC aD];exact h) rfl
   |true=>rw[c]at b;exact b.elim
  |_=>rw[c]at b;exact b.elim
 |_=>rw[e]at b;exact b.elim
end
end
end Go.Eng
