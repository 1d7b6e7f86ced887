/- Part 1 of the proof. No condition. -/
import Derived.WalkKit
import Derived.WalkSpells
import Derived.WalkLawsBesides
import Derived.ChangeKeysEq
set_option linter.unusedVariables false
set_option linter.unusedSimpArgs false
set_option maxRecDepth 20000
set_option maxHeartbeats 4000000
namespace Go.Eng
theorem aE{p:Prop}(h:p:=by omega):p:=h
theorem bC{p:Prop}(h:p:=by decide):p:=h
theorem aM{p:Prop}(h:p:=by simp):p:=h
theorem kG{p:Prop}(h:p:=by simp;omega):p:=h
theorem uB{p:Prop}(h:p:=by dsimp only;omega):p:=h
inductive DV where
 |int (k:IntKind) (n:Int)
 |bool (b:Bool)
 |str (s:List UInt8)
 |agg (cs:List DV)
 |sl (xs:List DV)
 |ro (cs:List DV)
 |fn (f:FuncId) (caps:List DV)
 |bm (f:FuncId) (first:List DV)
 |val (v:Value)
 |mp (ks vs:List DV)
 deriving Inhabited
def rM:List DV:=[.str [118,97,114],.str [114,101,99],.str [99,104,97,110],.str [108,111,99,107],.str [102,105,108,101],.str [112,114,111,99],.str [116,101,115,116],.str [],.str [],.str [],.str [],.str [105,102],.str [119,104,105,108,101],.str [103,111],.str [99,97,108,108],.str [115,101,110,100],.str [114,101,99,118],.str [97,99,113,117,105,114,101],.str [114,101,108,101,97,115,101],.str [100,114,97,119],.str [110,111,119],.str [115,108,101,101,112],.str [119,114,105,116,101],.str [114,101,97,100],.str [99,104,101,99,107],.str [97,108,108,111,99]]
def FR:List DV:=[.int .i64 (-999),.int .i64 999,.int .i64 0,.int .i64 0,.int .i64 0,.int .i64 3,.int .i64 0,.int .i64 0,.int .i64 0,.int .i64 0,.int .i64 0,.int .i64 0,.int .i64 0,.int .i64 0,.int .i64 (-999),.int .i64 999,.int .i64 0,.int .i64 0,.int .i64 0,.int .i64 0,.int .i64 0,.int .i64 0,.int .i64 0,.int .i64 0,.int .i64 0,.int .i64 0,.int .i64 0,.int .i64 0,.int .i64 0,.int .i64 0,.int .i64 0,.int .i64 0,.int .i64 0,.int .i64 0,.int .i64 0,.int .i64 0,.int .i64 0,.int .i64 0,.int .i64 2,.int .i64 6,.int .i64 0,.int .i64 0,.int .i64 1,.int .i64 9,.int .i64 0,.int .i64 0,.int .i64 0,.int .i64 0,.int .i64 0,.int .i64 0,.int .i64 1,.int .i64 99,.int .i64 0,.int .i64 0,.int .i64 0,.int .i64 0,.int .i64 0,.int .i64 0,.int .i64 0,.int .i64 0,.int .i64 0,.int .i64 0,.int .i64 0,.int .i64 0,.int .i64 0,.int .i64 999,.int .i64 0,.int .i64 0,.int .i64 0,.int .i64 0,.int .i64 0,.int .i64 0,.int .i64 0,.int .i64 0]
def BH:List DV:=[.str [60],.int .i64 1,.str [60,61],.int .i64 1,.str [61,61],.int .i64 1,.str [43],.int .i64 2,.str [45],.int .i64 2,.str [42],.int .i64 3]
def Pi:List DV:=[.int .u64 1,.int .u64 10,.int .u64 100,.int .u64 1000,.int .u64 10000,.int .u64 100000,.int .u64 1000000,.int .u64 10000000,.int .u64 100000000,.int .u64 1000000000,.int .u64 10000000000,.int .u64 100000000000,.int .u64 1000000000000,.int .u64 10000000000000,.int .u64 100000000000000,.int .u64 1000000000000000,.int .u64 10000000000000000,.int .u64 100000000000000000,.int .u64 1000000000000000000,.int .u64 10000000000000000000]
def Zg:List DV:=[.int .u8 0,.int .u8 1,.int .u8 28,.int .u8 2,.int .u8 29,.int .u8 14,.int .u8 24,.int .u8 3,.int .u8 30,.int .u8 22,.int .u8 20,.int .u8 15,.int .u8 25,.int .u8 17,.int .u8 4,.int .u8 8,.int .u8 31,.int .u8 27,.int .u8 13,.int .u8 23,.int .u8 21,.int .u8 19,.int .u8 16,.int .u8 7,.int .u8 26,.int .u8 12,.int .u8 18,.int .u8 6,.int .u8 11,.int .u8 5,.int .u8 10,.int .u8 9]
def Zh:List DV:=[.int .u8 0,.int .u8 1,.int .u8 56,.int .u8 2,.int .u8 57,.int .u8 49,.int .u8 28,.int .u8 3,.int .u8 61,.int .u8 58,.int .u8 42,.int .u8 50,.int .u8 38,.int .u8 29,.int .u8 17,.int .u8 4,.int .u8 62,.int .u8 47,.int .u8 59,.int .u8 36,.int .u8 45,.int .u8 43,.int .u8 51,.int .u8 22,.int .u8 53,.int .u8 39,.int .u8 33,.int .u8 30,.int .u8 24,.int .u8 18,.int .u8 12,.int .u8 5,.int .u8 63,.int .u8 55,.int .u8 48,.int .u8 27,.int .u8 60,.int .u8 41,.int .u8 37,.int .u8 16,.int .u8 46,.int .u8 35,.int .u8 44,.int .u8 21,.int .u8 52,.int .u8 32,.int .u8 23,.int .u8 11,.int .u8 54,.int .u8 26,.int .u8 40,.int .u8 15,.int .u8 34,.int .u8 20,.int .u8 31,.int .u8 10,.int .u8 25,.int .u8 14,.int .u8 19,.int .u8 9,.int .u8 13,.int .u8 8,.int .u8 7,.int .u8 6]
def globD:Nat->Option (List DV)
 |0=>some rM
 |1=>some FR
 |3=>some BH
 |6=>some Pi
 |7=>some Zg
 |8=>some Zh
 |_=>none
@[simp] theorem aA5:globD 0=some rM:=rfl
@[simp] theorem aA6:globD 1=some FR:=rfl
@[simp] theorem aA7:globD 3=some BH:=rfl
@[simp] theorem aA8:globD 6=some Pi:=rfl
@[simp] theorem aA9:globD 7=some Zg:=rfl
@[simp] theorem aBa:globD 8=some Zh:=rfl
open Go.RowKit
structure zN(B:Nat)(w w':World):Prop where
 os:w'.os=w.os
 tape:w'.tape=w.tape
 output:w'.output=w.output
 size:w.heap.size<=w'.heap.size
 block:∀k,k<B->w'.heap[k]? =w.heap[k]?
 drawn:w.drawn<=w'.drawn
theorem zN.below{B:Nat}{w w':World}(h:zN B w w'):Below B w w':=⟨h.os,h.tape,h.output,h.size,h.block⟩
theorem zN.refl(B:Nat)(w:World):zN B w w:=⟨rfl,rfl,rfl,Nat.le_refl _,λ_ _=>rfl,Nat.le_refl _⟩
theorem zN.of_below{B:Nat}{w w':World}(h:Below B w w')(hd:w.drawn<=w'.drawn):zN B w w':=⟨h.os,h.tape,h.output,h.size,h.block,hd⟩
theorem zN.alloc{B:Nat}{w w':World}(h:zN B w w')(hB:B<=w'.heap.size)(o:Obj):zN B w (w'.alloc o):=.of_below (h.below.alloc hB o) h.drawn
theorem zN.drew{B:Nat}{w w':World}(h:zN B w w'):zN B w w'.drew:=.of_below h.below.drew (Nat.le_succ_of_le h.drawn)
def aQ:DV->List DV
 | .agg cs=>cs
 |x=>[x]
def bS(xs:List DV):List DV:=xs.flatMap aQ
def gD(arr:Array MapEntry)(clock:Nat):Prop:=(∀(i:Nat) (e:MapEntry),arr[i]? =some e->e.born<clock)/\∀(i j:Nat) (e e':MapEntry),arr[i]? =some e->arr[j]? =some e'->e.born=e'.born->i=j
inductive RD(w:World)(E:Nat->Prop):DV->Value->Prop
 |int (k:IntKind) (n:Int):RD w E (.int k n) (.int k n)
 |bool (b:Bool):RD w E (.bool b) (.bool b)
 |str (s:List UInt8):RD w E (.str s) (.string ⟨s.toArray⟩)
 |agg (cs:List DV) (vs:List Value) (hl:vs.length=cs.length) (h1:∀u∈vs,u.oneCell'=true) (h:∀(i:Nat) (c:DV) (v:Value),cs[i]? =some c->vs[i]? =some v->RD w E c v):RD w E (.agg cs) (.agg vs.toArray)
 |sl0 (a:Option Addr) (c:Nat) (hc:c<=maxLen):RD w E (.sl []) (.slice a 0 c)
 |sl (xs:List DV) (b o c size:Nat) (us:List Value) (hx:xs≠[]) (hb:¬E b) (hs:∀x∈xs,(aQ x).length=size) (hlen:xs.length<=c) (hc:c<=maxLen)
   (hul:us.length=xs.length*size) (h1:∀u∈us,u.oneCell'=true) (hlt:b<w.heap.size) (hcell:∀(j:Nat) (u:Value),us[j]? =some u->w.cell? ⟨b,o+j,none⟩=some u)
   (h:∀(i:Nat) (d:DV) (v:Value),(bS xs)[i]? =some d->us[i]? =some v->RD w E d v):RD w E (.sl xs) (.slice (some ⟨b,o,none⟩) xs.length c)
 |ro (cs:List DV) (b o:Nat) (us:List Value) (hb:¬E b) (hul:us.length=cs.length) (h1:∀u∈us,u.oneCell'=true) (hlt:b<w.heap.size) (hcell:∀(j:Nat) (u:Value),us[j]? =some u->w.cell? ⟨b,o+j,none⟩=some u)
   (h:∀(i:Nat) (d:DV) (v:Value),cs[i]? =some d->us[i]? =some v->RD w E d v):RD w E (.ro cs) (.pointer (some ⟨b,o,none⟩))
 |fn (f:FuncId) (cs:List DV) (vs:List Value) (hl:vs.length=cs.length) (h:∀(i:Nat) (c:DV) (v:Value),cs[i]? =some c->vs[i]? =some v->RD w E c v):RD w E (.fn f cs) (.func (.func f) #[] vs.toArray)
 |bm (f:FuncId) (cs:List DV) (vs:List Value) (hl:vs.length=cs.length) (h:∀(i:Nat) (c:DV) (v:Value),cs[i]? =some c->vs[i]? =some v->RD w E c v):RD w E (.bm f cs) (.func (.func f) vs.toArray #[])
 |val (v:Value) (hv:v.oneCell'=true):RD w E (.val v) v
 |mp (ks vs:List DV) (b clock:Nat) (arr:Array MapEntry) (hb:¬E b) (hlt:b<w.heap.size) (hblk:w.heap[b]? =some (.map arr clock)) (hk:ks.length=arr.size) (hl:vs.length=arr.size) (hborn:gD arr clock)
   (hkey:∀(i:Nat) (d:DV) (e:MapEntry),ks[i]? =some d->arr[i]? =some e->RD w E d e.key) (hval:∀(i:Nat) (d:DV) (e:MapEntry),vs[i]? =some d->arr[i]? =some e->RD w E d e.val):RD w E (.mp ks vs) (.map (some b))
def Mm(w:World)(E:Nat->Prop)(cs:List DV)(vs:List Value):Prop:=vs.length=cs.length/\∀(i:Nat) (c:DV) (v:Value),cs[i]? =some c->vs[i]? =some v->RD w E c v
theorem Xk{w:World}{b o:Nat}{u:Value}(h:w.cell? ⟨b,o,none⟩=some u):b<w.heap.size:=by
 have:=World.block_lt_of_cell? w _ h;exact this
theorem RD.step{w w':World}{E E':Nat->Prop}(hw:∀k,k<w.heap.size->¬E k->w'.heap[k]? =w.heap[k]?)(hs:w.heap.size<=w'.heap.size)(hE:∀k,k<w.heap.size->E' k->E k)
 {d:DV}{v:Value}(h:RD w E d v):RD w' E' d v:=by
 induction h with
 |int k n=>exact .int k n
 |bool b=>exact .bool b
 |str s=>exact .str s
 |agg cs vs hl h1 _ ih=>exact .agg cs vs hl h1 ih
 |sl0 a c hc=>exact .sl0 a c hc
 |sl xs b o c size us hx hb hs' hlen hc hul h1 hlt hcell _ ih=>
  refine .sl xs b o c size us hx (λhe=>hb (hE b hlt he)) hs' hlen hc hul h1 (Nat.lt_of_lt_of_le hlt hs) (λj u hj=>?_) ih;rw[World.cell?_of_block (w:=w) (hw b hlt hb)];exact hcell j u hj
 |ro cs b o us hb hul h1 hlt hcell _ ih=>
  refine .ro cs b o us (λhe=>hb (hE b hlt he)) hul h1 (Nat.lt_of_lt_of_le hlt hs) (λj u hj=>?_) ih;rw[World.cell?_of_block (w:=w) (hw b hlt hb)];exact hcell j u hj
 |fn f cs vs hl _ ih=>exact .fn f cs vs hl ih
 |bm f cs vs hl _ ih=>exact .bm f cs vs hl ih
 |val v hv=>exact .val v hv
 |mp ks vs b clock arr hb hlt hblk hk hl hborn _ _ ih1 ih2=>exact .mp ks vs b clock arr (λhe=>hb (hE b hlt he)) (Nat.lt_of_lt_of_le hlt hs) ((hw b hlt hb).trans hblk) hk hl hborn ih1 ih2
def rN:Obj->Bool
 | .deferred _=>false
 | .loop _=>false
 |_=>true
theorem QC{w:World}{a:Addr}{u:Value}(h:w.cell? a=some u):∃o,w.heap[a.block]? =some o/\rN o=true:=by
 unfold World.cell? at h;cases ho:w.heap[a.block]? with
 |none=>simp[ho]at h
 |some o=>exact⟨o,rfl,by cases o<;>simp_all[rN]⟩
theorem RD.keep{w w':World}{E:Nat->Prop}(hw:∀(k:Nat) (o:Obj),w.heap[k]? =some o->rN o=true->w'.heap[k]? =some o)(hs:w.heap.size<=w'.heap.size)
 {d:DV}{v:Value}(h:RD w E d v):RD w' E d v:=by
 have hc:∀{a:Addr} {u:Value},w.cell? a=some u->w'.cell? a=some u:=λ{a u} h=>by
  obtain⟨o,h1,h2⟩:=QC h;rw[World.cell?_of_block (w:=w) ((hw _ o h1 h2).trans h1.symm)];exact h
 induction h with
 |int k n=>exact .int k n
 |bool b=>exact .bool b
 |str s=>exact .str s
 |agg cs vs hl h1 _ ih=>exact .agg cs vs hl h1 ih
 |sl0 a c hc=>exact .sl0 a c hc
 |sl xs b o c size us hx hb hs' hlen hcm hul h1 hlt hcell _ ih=>
  exact .sl xs b o c size us hx hb hs' hlen hcm hul h1 (Nat.lt_of_lt_of_le hlt hs) (λj u hj=>hc (hcell j u hj)) ih
 |ro cs b o us hb hul h1 hlt hcell _ ih=>exact .ro cs b o us hb hul h1 (Nat.lt_of_lt_of_le hlt hs) (λj u hj=>hc (hcell j u hj)) ih
 |fn f cs vs hl _ ih=>exact .fn f cs vs hl ih
 |bm f cs vs hl _ ih=>exact .bm f cs vs hl ih
 |val v hv=>exact .val v hv
 |mp ks vs b clock arr hb hlt hblk hk hl hborn _ _ ih1 ih2=>exact .mp ks vs b clock arr hb (Nat.lt_of_lt_of_le hlt hs) (hw b _ hblk rfl) hk hl hborn ih1 ih2
theorem RD.anti{w:World}{E E':Nat->Prop}(hE:∀k,E' k->E k){d:DV}{v:Value}(h:RD w E d v):RD w E' d v:=
 h.step (λ_ _ _=>rfl) (Nat.le_refl _) λk _=>hE k
def yI(w:World)(E:Nat->Prop):Prop:=∀n cs,globD n=some cs->RD w E (.ro cs) (.pointer (some ⟨n,0,none⟩))/\∃arr t fz,w.heap[n]? =some (.cells arr t fz)/\arr.size=cs.length
theorem RD.ro_block{w:World}{E:Nat->Prop}{cs:List DV}{n:Nat}(h:RD w E (.ro cs) (.pointer (some ⟨n,0,none⟩))):¬E n/\n<w.heap.size:=by
 cases h with|ro _ _ _ us hb _ _ hlt _ _=>exact⟨hb,hlt⟩
theorem yI.step{w w':World}{E E':Nat->Prop}(hw:∀k,k<w.heap.size->¬E k->w'.heap[k]? =w.heap[k]?)(hs:w.heap.size<=w'.heap.size)(hE:∀k,k<w.heap.size->E' k->E k)
 (h:yI w E):yI w' E':=λn cs e=>by
 obtain⟨h1,arr,t,fz,h2,h3⟩:=h n cs e;exact⟨h1.step hw hs hE,arr,t,fz,by rw[hw n h1.ro_block.2 h1.ro_block.1];exact h2,h3⟩
theorem yI.anti{w:World}{E E':Nat->Prop}(hE:∀k,E' k->E k)(h:yI w E):yI w E':=λn cs e=>⟨(h n cs e).1.anti hE,(h n cs e).2⟩
def Xl(w:World)(X:Nat->Prop):Prop:=(∀k,X k->k<w.heap.size)/\yI w X
inductive LV where
 |d (x:DV)
 |agg (cs:List LV)
 |bx (id off:Nat)
 |rp (id k j:Nat)
 |ow (id k n:Nat)
 |fn (f:FuncId) (caps:List LV)
 |bm (f:FuncId) (first:List LV)
 |tup (vs:List LV)
 |when (c:Bool) (x:LV)
 |nl
 |mp (id:Nat)
 |it (id:Nat)
 |oc (id k n c:Nat)
 |junk
 deriving Inhabited
inductive bB where
 |absent
 |dead
 |box (fz:Bool) (cs:List LV)
 |row (fz:Bool) (size:Nat) (xs:List DV)
 |map (fz:Bool) (ks vs:List DV)
 |iter (fz:Bool) (ks vs:List DV)
 |know (x:LV) (v:Value)
 deriving Inhabited
def bB.mut:bB->Bool
 | .box fz _=> !fz
 | .row fz _ _=> !fz
 | .map fz _ _=> !fz
 | .iter fz _ _=> !fz
 |_=>false
def bB.live:bB->Bool
 | .box _ _=>true
 | .row _ _ _=>true
 | .map _ _ _=>true
 | .iter _ _ _=>true
 |_=>false
def Ex(X:Nat->Prop)(β:Nat->Option Nat)(H:Nat->bB)(k:Nat):Prop:=X k\/∃id,(H id).mut=true/\β id=some k
inductive R(w:World)(E:Nat->Prop)(β:Nat->Option Nat)(H:Nat->bB):LV->Value->Prop
 |d (x:DV) (v:Value) (h:RD w E x v):R w E β H (.d x) v
 |agg (cs:List LV) (vs:List Value) (hl:vs.length=cs.length) (h1:∀u∈vs,u.oneCell'=true) (h:∀(i:Nat) (c:LV) (v:Value),cs[i]? =some c->vs[i]? =some v->R w E β H c v):R w E β H (.agg cs) (.agg vs.toArray)
 |bx (id off b:Nat) (fz:Bool) (cs:List LV) (hH:H id=.box fz cs) (hb:β id=some b):R w E β H (.bx id off) (.pointer (some ⟨b,off,none⟩))
 |bxdead (id off:Nat) (v:Value) (hH:H id=.dead) (h1:v.oneCell'=true):R w E β H (.bx id off) v
 |rp (id k j b:Nat) (fz:Bool) (size:Nat) (xs:List DV) (hH:H id=.row fz size xs) (hb:β id=some b):R w E β H (.rp id k j) (.pointer (some ⟨b,k*size+j,none⟩))
 |rpdead (id k j:Nat) (v:Value) (hH:H id=.dead) (h1:v.oneCell'=true):R w E β H (.rp id k j) v
 |ow (id k n b c:Nat) (fz:Bool) (size:Nat) (xs:List DV) (cur:Array Value) (e:TypeId) (hH:H id=.row fz size xs) (hb:β id=some b) (hkn:k+n<=xs.length) (hn:n<=c) (hc:c<=maxLen)
   (hblk:w.heap[b]? =some (.cells cur e (0,0))) (hroom:(k+c)*size=cur.size):R w E β H (.ow id k n) (.slice (some ⟨b,k*size,none⟩) n c)
 |ow0 (id k:Nat) (a:Option Addr) (fz:Bool) (size:Nat) (xs:List DV) (hH:H id=.row fz size xs) (h0:(β id=none/\k=0)\/∃b cur e,β id=some b/\w.heap[b]? =some (.cells cur e (0,0))/\k*size=cur.size/\k<=xs.length):R w E β H (.ow id k 0) (.slice a 0 0)
 |owdead (id k n:Nat) (v:Value) (hH:H id=.dead) (h1:v.oneCell'=true):R w E β H (.ow id k n) v
 |fn (f:FuncId) (cs:List LV) (vs:List Value) (hl:vs.length=cs.length) (h:∀(i:Nat) (c:LV) (v:Value),cs[i]? =some c->vs[i]? =some v->R w E β H c v):R w E β H (.fn f cs) (.func (.func f) #[] vs.toArray)
 |bm (f:FuncId) (cs:List LV) (vs:List Value) (hl:vs.length=cs.length) (h:∀(i:Nat) (c:LV) (v:Value),cs[i]? =some c->vs[i]? =some v->R w E β H c v):R w E β H (.bm f cs) (.func (.func f) vs.toArray #[])
 |tup (cs:List LV) (vs:List Value) (hl:vs.length=cs.length) (h:∀(i:Nat) (c:LV) (v:Value),cs[i]? =some c->vs[i]? =some v->R w E β H c v):R w E β H (.tup cs) (.tuple vs.toArray)
 |when (c:Bool) (x:LV) (v:Value) (h:c=true->R w E β H x v) (h0:c=false->v=undef):R w E β H (.when c x) v
 |nl (a:Option Addr):R w E β H .nl (.slice a 0 0)
 |mp (id b:Nat) (fz:Bool) (ks vs:List DV) (hH:H id=.map fz ks vs) (hb:β id=some b):R w E β H (.mp id) (.map (some b))
 |mpdead (id:Nat) (v:Value) (hH:H id=.dead) (h1:v.oneCell'=true):R w E β H (.mp id) v
 |it (id b:Nat) (fz:Bool) (ks vs:List DV) (hH:H id=.iter fz ks vs) (hb:β id=some b):R w E β H (.it id) (.pointer (some ⟨b,0,none⟩))
 |itdead (id:Nat) (v:Value) (hH:H id=.dead) (h1:v.oneCell'=true):R w E β H (.it id) v
 |oc (id k n c:Nat) (a:Option Addr) (fz:Bool) (size:Nat) (xs:List DV) (hH:H id=.row fz size xs) (hn:n<=c) (hkc:k+c<=xs.length) (hc:c<=maxLen) (ha:c=0\/∃b,β id=some b/\a=some ⟨b,k*size,none⟩):R w E β H (.oc id k n c) (.slice a n c)
 |ocdead (id k n c:Nat) (v:Value) (hH:H id=.dead) (h1:v.oneCell'=true):R w E β H (.oc id k n c) v
 |junk (v:Value):R w E β H .junk v
def bQ(w:World)(β:Nat->Option Nat)(H:Nat->bB)(w':World)(β':Nat->Option Nat)(H':Nat->bB)(id:Nat):Prop:=
 match H id with
 | .absent=>True
 | .dead=>H' id=.dead
 | .box _ _=>H' id=.dead\/((∃fz cs,H' id=.box fz cs)/\β' id=β id)
 | .row _ size xs=>H' id=.dead\/((∃fz xs',H' id=.row fz size xs'/\xs.length<=xs'.length)/\β' id=β id/\
     ∀b cur e,β id=some b->w.heap[b]? =some (.cells cur e (0,0))->∃cur' e',w'.heap[b]? =some (.cells cur' e' (0,0))/\cur'.size=cur.size)
 | .map _ _ _=>H' id=.dead\/((∃fz ks vs,H' id=.map fz ks vs)/\β' id=β id)
 | .iter _ _ _=>H' id=.dead\/((∃fz ks vs,H' id=.iter fz ks vs)/\β' id=β id)
 | .know _ _=>True
theorem R.step{w w':World}{E E':Nat->Prop}{β β':Nat->Option Nat}{H H':Nat->bB}(hD:∀x v,RD w E x v->RD w' E' x v)(hP:∀id,bQ w β H w' β' H' id)
 {l:LV}{v:Value}(h:R w E β H l v):R w' E' β' H' l v:=by
 induction h with
 |d x v h=>exact .d x v (hD x v h)
 |agg cs vs hl h1 _ ih=>exact .agg cs vs hl h1 ih
 |bx id off b fz cs hH hb=>
  have hp:=hP id;simp only[bQ,hH]at hp;rcases hp with hp|⟨⟨fz',cs',hp⟩,hb'⟩
  ·exact .bxdead _ _ _ hp rfl
  ·exact .bx id off b fz' cs' hp (hb'.trans hb)
 |bxdead id off v hH h1=>exact .bxdead id off v (by have hp:=hP id;simpa only[bQ,hH]using hp) h1
 |rp id k j b fz size xs hH hb=>
  have hp:=hP id;simp only[bQ,hH]at hp;rcases hp with hp|⟨⟨fz',xs',hp,_⟩,hb',_⟩
  ·exact .rpdead _ _ _ _ hp rfl
  ·exact .rp id k j b fz' size xs' hp (hb'.trans hb)
 |rpdead id k j v hH h1=>exact .rpdead id k j v (by have hp:=hP id;simpa only[bQ,hH]using hp) h1
 |ow id k n b c fz size xs cur e hH hb hkn hn hc hblk hroom=>
  have hp:=hP id;simp only[bQ,hH]at hp;rcases hp with hp|⟨⟨fz',xs',hp,hlen⟩,hb',hh⟩
  ·exact .owdead _ _ _ _ hp rfl
  ·obtain⟨cur',e',hblk',hsz⟩:=hh b cur e hb hblk;exact .ow id k n b c fz' size xs' cur' e' hp (hb'.trans hb) aE hn hc hblk' (hroom.trans hsz.symm)
 |ow0 id k a fz size xs hH h0=>
  have hp:=hP id;simp only[bQ,hH]at hp;rcases hp with hp|⟨⟨fz',xs',hp,hlen⟩,hb',hh⟩
  ·exact .owdead _ _ _ _ hp rfl
  ·refine .ow0 id k a fz' size xs' hp ?_;rcases h0 with⟨h1,h2⟩|⟨b,cur,e,h1,h2,h3,h4⟩
   ·exact .inl ⟨hb'.trans h1,h2⟩
   ·obtain⟨cur',e',hblk',hsz⟩:=hh b cur e h1 h2;exact .inr ⟨b,cur',e',hb'.trans h1,hblk',h3.trans hsz.symm,aE⟩
 |owdead id k n v hH h1=>exact .owdead id k n v (by have hp:=hP id;simpa only[bQ,hH]using hp) h1
 |fn f cs vs hl _ ih=>exact .fn f cs vs hl ih
 |bm f cs vs hl _ ih=>exact .bm f cs vs hl ih
 |tup cs vs hl _ ih=>exact .tup cs vs hl ih
 |when c x v _ h0 ih=>exact .when c x v ih h0
 |nl a=>exact .nl a
 |mp id b fz ks vs hH hb=>
  have hp:=hP id;simp only[bQ,hH]at hp;rcases hp with hp|⟨⟨fz',ks',vs',hp⟩,hb'⟩
  ·exact .mpdead _ _ hp rfl
  ·exact .mp id b fz' ks' vs' hp (hb'.trans hb)
 |mpdead id v hH h1=>exact .mpdead id v (by have hp:=hP id;simpa only[bQ,hH]using hp) h1
 |it id b fz ks vs hH hb=>
  have hp:=hP id;simp only[bQ,hH]at hp;rcases hp with hp|⟨⟨fz',ks',vs',hp⟩,hb'⟩
  ·exact .itdead _ _ hp rfl
  ·exact .it id b fz' ks' vs' hp (hb'.trans hb)
 |itdead id v hH h1=>exact .itdead id v (by have hp:=hP id;simpa only[bQ,hH]using hp) h1
 |oc id k n c a fz size xs hH hn hkc hc ha=>
  have hp:=hP id;simp only[bQ,hH]at hp;rcases hp with hp|⟨⟨fz',xs',hp,hlen⟩,hb',_⟩
  ·exact .ocdead _ _ _ _ _ hp rfl
  ·exact .oc id k n c a fz' size xs' hp hn aE hc (ha.imp (λh=>h) λ⟨b,h1,h2⟩=>⟨b,hb'.trans h1,h2⟩)
 |ocdead id k n c v hH h1=>exact .ocdead id k n c v (by have hp:=hP id;simpa only[bQ,hH]using hp) h1
 |junk v=>exact .junk v
def dO(w:World)(E:Nat->Prop)(β:Nat->Option Nat)(H:Nat->bB)(id:Nat):Prop:=
 match H id with
 | .box _ cs=>∃b e us,β id=some b/\w.heap[b]? =some (.cells (List.toArray us) e (0,0))/\us.length=cs.length/\(∀u∈us,u.oneCell'=true)/\∀(i:Nat) (c:LV) (v:Value),cs[i]? =some c->us[i]? =some v->R w E β H c v
 | .row _ size xs=>0<size/\(∀x∈xs,(aQ x).length=size)/\((β id=none/\xs=[])\/
     ∃b e cur,β id=some b/\w.heap[b]? =some (.cells cur e (0,0))/\xs.length*size<=cur.size/\∀(i:Nat) (d:DV) (v:Value),(bS xs)[i]? =some d->cur[i]? =some v->v.oneCell'=true/\RD w E d v)
 | .map _ ks vs=>∃b arr clock,β id=some b/\w.heap[b]? =some (.map arr clock)/\ks.length=arr.size/\vs.length=arr.size/\gD arr clock/\
     (∀(i:Nat) (d:DV) (e:MapEntry),ks[i]? =some d->arr[i]? =some e->RD w E d e.key)/\∀(i:Nat) (d:DV) (e:MapEntry),vs[i]? =some d->arr[i]? =some e->RD w E d e.val
 | .iter _ ks vs=>∃b bm arr clock seen last,β id=some b/\w.heap[b]? =some (.mapIter (some bm) clock seen last)/\¬E bm/\bm<w.heap.size/\w.heap[bm]? =some (.map arr clock)/\gD arr clock/\last=clock/\
     ks.length=(arr.filter λe=> !seen.contains e.born).size/\vs.length=(arr.filter λe=> !seen.contains e.born).size/\
     (∀(i:Nat) (d:DV) (e:MapEntry),ks[i]? =some d->(arr.filter λe=> !seen.contains e.born)[i]? =some e->RD w E d e.key)/\∀(i:Nat) (d:DV) (e:MapEntry),vs[i]? =some d->(arr.filter λe=> !seen.contains e.born)[i]? =some e->RD w E d e.val
 | .know x v=>R w E β H x v
 |_=>True
structure uC where
 env:Nat->LV
 H:Nat->bB
 ok:Prop
structure cX where
 w:World
 β:Nat->Option Nat
 H:Nat->bB
 pins:List Nat
 flat:Bool
def cX.own(w0:cX)(k:Nat):Prop:=∃id∈w0.pins,(w0.H id).mut=true/\w0.β id=some k
def cX.mine(w0:cX)(k:Nat):Prop:=∃id∈w0.pins,(w0.H id).live=true/\w0.β id=some k
structure TA(w0:cX)(w:World):Prop where
 os:w.os=w0.w.os
 tape:w.tape=w0.w.tape
 output:w.output=w0.w.output
 size:w0.w.heap.size<=w.heap.size
 block:∀k,k<w0.w.heap.size->¬w0.own k->w.heap[k]? =w0.w.heap[k]?
 drawn:w0.w.drawn<=w.drawn
theorem TA.of_below{w0:cX}{w w':World}(h:TA w0 w)(k:zN w.heap.size w w'):TA w0 w':=
 ⟨k.os.trans h.os,k.tape.trans h.tape,k.output.trans h.output,Nat.le_trans h.size k.size,λi hi hn=>(k.block i (Nat.lt_of_lt_of_le hi h.size)).trans (h.block i hi hn),Nat.le_trans h.drawn k.drawn⟩
def FS(w0:cX)(w:World)(E:Nat->Prop)(l:List Deferred):Prop:=∃Ds:List Nat,(w0.flat=true->Ds=[])/\Ds.Nodup/\l=Ds.map (λD=>{target:=.collected D,args:= #[]})/\∀D∈Ds,w0.w.heap.size<=D/\¬E D/\w.heap[D]? =some (.deferred (some []))
theorem FS.nil{w0:cX}{w:World}{E:Nat->Prop}:FS w0 w E []:=⟨[],λ_=>rfl,List.nodup_nil,rfl,λ_ h=>by cases h⟩
theorem FS.anti{w0:cX}{w:World}{E E':Nat->Prop}{l:List Deferred}(h:FS w0 w E l)(he:∀k,E' k->E k):FS w0 w E' l:=
 let⟨Ds,h0,h1,h2,h3⟩:=h;⟨Ds,h0,h1,h2,λD hD=>⟨(h3 D hD).1,λh=>(h3 D hD).2.1 (he D h),(h3 D hD).2.2⟩⟩
structure mC(N:Nat)(w0:cX)(X:Nat->Prop)(env:Nat->LV)(H:Nat->bB)(β:Nat->Option Nat)(a:Act)(w:World):Prop where
 defers:FS w0 w (Ex X β H) a.defers
 size:a.tmps.size=N
 ext:TA w0 w
 xold:(∀k,X k->k<w0.w.heap.size/\¬w0.mine k)/\yI w0.w λk=>X k\/w0.mine k
 fresh:∀id b,(H id).live=true->β id=some b->(w0.w.heap.size<=b\/w0.mine b/\((H id).mut=true->w0.own b))/\b<w.heap.size
 inj:∀i j b,(H i).live=true->(H j).live=true->β i=some b->β j=some b->i=j
 env:∀t,R w (Ex X β H) β H (env t) (a.tmps.getD t undef)
 obj:∀id,dO w (Ex X β H) β H id
 pin:∀id∈w0.pins,bQ w0.w w0.β w0.H w β H id
structure dR(w0:cX)(X:Nat->Prop)(H:Nat->bB)(β:Nat->Option Nat)(w:World):Prop where
 ext:TA w0 w
 xold:(∀k,X k->k<w0.w.heap.size/\¬w0.mine k)/\yI w0.w λk=>X k\/w0.mine k
 fresh:∀id b,(H id).live=true->β id=some b->(w0.w.heap.size<=b\/w0.mine b/\((H id).mut=true->w0.own b))/\b<w.heap.size
 inj:∀i j b,(H i).live=true->(H j).live=true->β i=some b->β j=some b->i=j
 obj:∀id,dO w (Ex X β H) β H id
 pin:∀id∈w0.pins,bQ w0.w w0.β w0.H w β H id
theorem bK{o:bB}(h:o.mut=true):o.live=true:=by cases o<;>simp_all[bB.mut,bB.live]
open Go.RowKit
inductive TK where
 |none
 |int (k:IntKind)
 |bool
 |str
 |slice (e:TypeId)
 |struct (fs:List (Nat×TypeId))
 |arr (n:Nat) (e:TypeId)
 |ptr (e:TypeId)
 |map (k e:TypeId)
 |other
 deriving DecidableEq
def TK.isNone:TK->Bool
 | .none=>true
 |_=>false
def TK.isInt:TK->Bool
 | .int _=>true
 |_=>false
def TK.isPtr:TK->Bool
 | .ptr _=>true
 |_=>false
def TK.isBool:TK->Bool
 | .bool=>true
 |_=>false
def TK.isStr:TK->Bool
 | .str=>true
 |_=>false
structure fE where
 k:TK
 size:Nat
 bytes:Nat
 zero:List Value
 eqk:List TK:=[]
def TK.agg:TK->Bool
 | .struct _=>true
 | .arr _ _=>true
 |_=>false
def cE{α:Type}(f:Nat->α)(i:Nat)(x:α)(j:Nat):α:=if j=i then x else f j
def bW{α:Type}(f:Nat->α):List (Nat×α)->Nat->α
 |[],j=>f j
 |p::r,j=>if j=p.1 then p.2 else bW f r j
def mE:Value->LV
 | .bool b=>.d (.bool b)
 | .int k n=>.d (.int k n)
 | .string s=>.d (.str s.data.toList)
 | .slice none 0 0=>.nl
 | .agg _=>.junk
 | .tuple _=>.junk
 |v=>.d (.val v)
def oO:Value->LV
 | .bool b=>.d (.bool b)
 | .int k n=>.d (.int k n)
 | .string s=>.d (.str s.data.toList)
 | .slice none 0 0=>.nl
 | .agg vs=>if vs.toList.all Value.oneCell' then .agg (vs.toList.map mE)else .junk
 | .tuple _=>.junk
 |v=>.d (.val v)
def kH(env:Nat->LV):Operand->LV
 | .tmp t=>env t
 | .const v=>oO v
 | .func f=>.d (.fn f [])
 | .global n=>match globD n with
   |some cs=>.d (.ro cs)
   |none=>.junk
def dV:LV->List LV
 | .d (.agg cs)=>cs.map .d
 | .agg cs=>cs
 |x=>[x]
def TB:LV->Bool
 | .oc _ _ _ _=>true
 |_=>false
def iU(_:Nat->bB):LV->Bool
 | .d _=>true
 | .agg _=>true
 | .bx _ _=>true
 | .rp _ _ _=>true
 | .ow _ _ _=>true
 | .oc _ _ _ _=>true
 | .mp _=>true
 | .fn _ _=>true
 | .bm _ _=>true
 | .nl=>true
 |_=>false
def Mn:List LV->Option (List DV)
 |[]=>some []
 | .d x::r=>(Mn r).map (x::·)
 |_=>none
def mkAgg(cs:List LV):LV:=match Mn cs with|some ds=>.d (.agg ds)|none=>.agg cs
def cM{α:Type}:List (Option α)->Option (List α)
 |[]=>some []
 |some x::r=>(cM r).map (x::·)
 |none::_=>none
def close(H:Nat->bB):Nat->LV->Option DV
 |0,_=>none
 |n+1,l=>match l with
  | .d x=>some x
  | .agg cs=>(cM (cs.map (close H n))).map .agg
  | .ow id k m=>match H id with
    | .row _ _ xs=>some (.sl ((xs.drop k).take m))
    |_=>none
  | .oc id k m _=>match H id with
    | .row _ _ xs=>some (.sl ((xs.drop k).take m))
    |_=>none
  | .bx id off=>match H id with
    | .box _ cs=>(cM ((cs.drop off).map (close H n))).map .ro
    |_=>none
  | .fn f cs=>(cM (cs.map (close H n))).map (.fn f)
  | .bm f cs=>(cM (cs.map (close H n))).map (.bm f)
  | .nl=>some (.sl [])
  | .mp id=>match H id with
    | .map _ ks vs=>some (.mp ks vs)
    |_=>none
  |_=>none
def bR(H:Nat->bB):Nat->LV->List Nat
 |0,_=>[]
 |n+1,l=>match l with
  | .agg cs=>cs.flatMap (bR H n)
  | .ow id _ _=>[id]
  | .oc id _ _ _=>[id]
  | .mp id=>[id]
  | .bx id off=>match H id with
    | .box _ cs=>id::(cs.drop off).flatMap (bR H n)
    |_=>[]
  | .fn _ cs=>cs.flatMap (bR H n)
  | .bm _ cs=>cs.flatMap (bR H n)
  |_=>[]
def frozen:bB->bB
 | .box _ cs=>.box true cs
 | .row _ s xs=>.row true s xs
 | .map _ ks vs=>.map true ks vs
 | .iter _ ks vs=>.iter true ks vs
 |o=>o
def bI(H:Nat->bB)(ids:List Nat):List (Nat×bB):=ids.map λid=>(id,frozen (H id))
def oL:List (Nat×LV)->Nat->LV
 |[],_=>.junk
 |p::r,j=>if j=p.1 then p.2 else oL r j
def fI:List (Nat×bB)->Nat->bB
 |[],_=>.absent
 |p::r,j=>if j=p.1 then p.2 else fI r j
def aR(l:List (Nat×LV)):Nat->LV:=λj=>oL l j
def aL(l:List (Nat×bB)):Nat->bB:=λj=>fI l j
def dP:List (Nat×Nat)->Nat->Option Nat
 |[],_=>none
 |p::r,i=>if i=p.1 then some p.2 else dP r i
def ren(σ:List (Nat×Nat)):Nat->LV->LV
 |0,_=>.junk
 |n+1,l=>match l with
  | .d x=>.d x
  | .agg cs=>.agg (cs.map (ren σ n))
  | .bx id off=>match dP σ id with|some j=>.bx j off|none=>.junk
  | .rp id k j=>match dP σ id with|some i=>.rp i k j|none=>.junk
  | .ow id k m=>match dP σ id with|some i=>.ow i k m|none=>.junk
  | .oc id k m c=>match dP σ id with|some i=>.oc i k m c|none=>.junk
  | .fn f cs=>.fn f (cs.map (ren σ n))
  | .bm f cs=>.bm f (cs.map (ren σ n))
  | .tup cs=>.tup (cs.map (ren σ n))
  | .nl=>.nl
  | .mp id=>match dP σ id with|some j=>.mp j|none=>.junk
  | .it id=>match dP σ id with|some j=>.it j|none=>.junk
  |_=>.junk
def cQ(σ:List (Nat×Nat)):bB->bB
 | .box fz cs=>.box fz (cs.map (ren σ 8))
 | .know x v=>.know (ren σ 8 x) v
 |o=>o
structure kQ where
 v:LV
 ok:Prop
 up:List (Nat×bB)
def kQ.fail:kQ:=⟨.junk,False,[]⟩
def kQ.plain(v:LV):kQ:=⟨v,True,[]⟩
def kQ.cond(v:LV)(c:Prop):kQ:=⟨v,c,[]⟩
def Jk:DV->DV->Option Bool
 | .int j a,.int k b=>if j=k then some (decide (a=b))else none
 | .bool a,.bool b=>some (a==b)
 | .str a,.str b=>some (a==b)
 |_,_=>none
def iM:List DV->List DV->Option Bool
 |[],[]=>some true
 |a::x,b::y=>match Jk a b,iM x y with
  |some p,some q=>some (p&&q)
  |_,_=>none
 |_,_=>none
def gJ:TK->DV->Bool
 | .int _,.int _ _=>true
 | .bool,.bool _=>true
 | .str,.str _=>true
 |_,_=>false
def bZ:List TK->List DV->Bool
 |[],[]=>true
 |k::ks,d::ds=>gJ k d&&bZ ks ds
 |_,_=>false
def fU(eqk:List TK)(tb:Bool)(op:BinOp)(x y:LV):kQ:=
 match x,y with
 | .d (.int k a),.d (.int k' b)=>
   match op with
   | .add=>if k=k' then(if k=.i64 then .cond (.d (.int k (a+b))) (-9223372036854775808<=a+b/\a+b<=9223372036854775807)else .plain (.d (.int k (k.wrap (a+b)))))else .fail
   | .sub=>if k=k' then(if k=.i64 then .cond (.d (.int k (a-b))) (-9223372036854775808<=a-b/\a-b<=9223372036854775807)else .plain (.d (.int k (k.wrap (a-b)))))else .fail
   | .mul=>if k=k' then(if k=.i64 then .cond (.d (.int k (a*b))) (-9223372036854775808<=a*b/\a*b<=9223372036854775807)else .plain (.d (.int k (k.wrap (a*b)))))else .fail
   | .quo=>if k=k' then(if k=.i64 then .cond (.d (.int k (a.tdiv b))) (b≠0/\ -9223372036854775808<=a.tdiv b/\a.tdiv b<=9223372036854775807)else .cond (.d (.int k (k.wrap (a.tdiv b)))) (b≠0))else .fail
   | .rem=>if k=k' then .cond (.d (.int k (a.tmod b))) (b≠0)else .fail
   | .lss=>if k=k' then .plain (.d (.bool (decide (a<b))))else .fail
   | .leq=>if k=k' then .plain (.d (.bool (decide (a<=b))))else .fail
   | .gtr=>if k=k' then .plain (.d (.bool (decide (a>b))))else .fail
   | .geq=>if k=k' then .plain (.d (.bool (decide (a>=b))))else .fail
   | .eql=>if k=k' then .plain (.d (.bool (decide (a=b))))else .fail
   | .neq=>if k=k' then .plain (.d (.bool (!decide (a=b))))else .fail
   | .shl=>.cond (.d (.int k (k.wrap (a*2^min b.toNat k.bits)))) (0<=b)
   | .shr=>.cond (.d (.int k (a.fdiv (2^min b.toNat k.bits)))) (0<=b)
   | .and=>if k=k' then .plain (.d (.int k (k.wrap (BitVec.ofInt k.bits a&&&BitVec.ofInt k.bits b).toNat)))else .fail
   | .or=>if k=k' then .plain (.d (.int k (k.wrap (BitVec.ofInt k.bits a|||BitVec.ofInt k.bits b).toNat)))else .fail
   | .xor=>if k=k' then .plain (.d (.int k (k.wrap (BitVec.ofInt k.bits a^^^BitVec.ofInt k.bits b).toNat)))else .fail
   |_=>.fail
 | .d (.str a),.d (.str b)=>
   match op with
   | .add=>.cond (.d (.str (a++b))) (a.length+b.length<=9223372036854775807)
   | .eql=>.plain (.d (.bool (a==b)))
   | .neq=>.plain (.d (.bool (!(a==b))))
   | .lss=>.plain (.d (.bool (Op.bytesLess a b)))
   | .leq=>.plain (.d (.bool (Op.bytesLess a b||a==b)))
   | .gtr=>.plain (.d (.bool (!(Op.bytesLess a b||a==b))))
   | .geq=>.plain (.d (.bool (!Op.bytesLess a b)))
   |_=>.fail
 | .d (.agg a),.d (.agg b)=>
   match op with
   | .eql=>match iM a b with|some c=>.cond (.d (.bool c)) (bZ eqk a=true/\a≠[])|none=>.fail
   | .neq=>match iM a b with|some c=>.cond (.d (.bool (!c))) (bZ eqk a=true/\a≠[])|none=>.fail
   |_=>.fail
 | .d (.bool a),.d (.bool b)=>
   match op with
   | .eql=>.cond (.d (.bool (a==b))) (tb=true)
   | .neq=>.cond (.d (.bool (!(a==b)))) (tb=true)
   |_=>.fail
 |_,_=>.fail
def qP(op:BinOp)(x y:LV):kQ:=
 match op,x,y with
 | .eql,.d (.ro _),.d (.val (.pointer none))=>.plain (.d (.bool false))
 | .neq,.d (.ro _),.d (.val (.pointer none))=>.plain (.d (.bool true))
 | .eql,.d (.val (.pointer none)),.d (.val (.pointer none))=>.plain (.d (.bool true))
 | .neq,.d (.val (.pointer none)),.d (.val (.pointer none))=>.plain (.d (.bool false))
 |_,_,_=>.fail
def uM:Value->DV
 | .bool b=>.bool b
 | .int k n=>.int k n
 | .string s=>.str s.data.toList
 | .slice none 0 0=>.sl []
 |v=>.val v
def iV(t:fE):DV:=if t.k.agg then .agg (t.zero.map uM)else(t.zero.map uM).getD 0 default
def kI(a b:DV):Option Bool:=match a,b with
 | .agg x,.agg y=>iM x y
 |a,b=>Jk a b
def iF(k:DV):List DV->Nat->Option (Option Nat)
 |[],_=>some none
 |x::r,i=>match kI k x with
  |some true=>some (some i)
  |some false=>iF k r (i+1)
  |none=>none
def TK.isStruct:TK->Bool
 | .struct _=>true
 |_=>false
def rO(t:fE)(d:DV):Bool:=match d with
 | .agg ks=>bZ t.eqk ks&& !ks.isEmpty&&t.k.isStruct
 |d=>gJ t.k d
def rP(H:Nat->bB):LV->Option (List DV×List DV)
 | .d (.mp ks vs)=>some (ks,vs)
 | .mp id=>match H id with
   | .map _ ks vs=>some (ks,vs)
   |_=>none
 |_=>none
def cR(T:TypeId->fE)(H:Nat->bB)(t:TypeId)(x i:LV)(ok:Bool):kQ:=
 match(T t).k,rP H x,i with
 | .map kt et,some (ks,vs),.d k=>match iF k ks 0 with
   |some (some j)=>.cond (if ok then .tup [.d (vs.getD j default),.d (.bool true)]else .d (vs.getD j default)) (rO (T kt) k=true)
   |some none=>.cond (if ok then .tup [.d (iV (T et)),.d (.bool false)]else .d (iV (T et))) (rO (T kt) k=true/\(T et).k.isNone=false)
   |none=>.fail
 |_,_,_=>.fail
def cF(T:TypeId->fE)(H:Nat->bB)(t:TypeId)(m k x:LV):kQ:=
 match(T t).k,m,k,x with
 | .map kt _,.mp id,.d k,.d v=>match H id with
   | .map false ks vs=>match iF k ks 0 with
     |some (some j)=>⟨.junk,rO (T kt) k=true,[(id,.map false ks (vs.set j v))]⟩
     |some none=>⟨.junk,rO (T kt) k=true,[(id,.map false (ks++[k]) (vs++[v]))]⟩
     |none=>.fail
   |_=>.fail
 |_,_,_,_=>.fail
def gV(T:TypeId->fE)(H:Nat->bB)(t:TypeId)(m k x:LV):kQ:=
 match x with
 | .d v=>cF T H t m k (.d v)
 |x=>match close H 8 x with
  |some v=>⟨(cF T (bW H (bI H (bR H 8 x))) t m k (.d v)).v,(cF T (bW H (bI H (bR H 8 x))) t m k (.d v)).ok,(cF T (bW H (bI H (bR H 8 x))) t m k (.d v)).up++bI H (bR H 8 x)⟩
  |none=>.fail
def pL(T:TypeId->fE)(H:Nat->bB)(t:TypeId)(m k:LV):kQ:=.fail
def lH(H:Nat->bB)(dst:Nat):kQ:=⟨.mp dst,H dst=.absent,[(dst,.map false [] [])]⟩
def pC(H:Nat->bB)(dst:Nat):LV->kQ
 | .d (.mp ks vs)=>⟨.it dst,H dst=.absent,[(dst,.iter false ks vs)]⟩
 |_=>.fail
def Dg(op:UnOp)(x:LV):kQ:=
 match op,x with
 | .not,.d (.bool b)=>.plain (.d (.bool (!b)))
 | .xor,.d (.int k n)=>.plain (.d (.int k (k.wrap (BitVec.ofInt k.bits (if k.signed then -1 else k.max)^^^BitVec.ofInt k.bits n).toNat)))
 | .neg,.d (.int k n)=>if k=.i64 then .cond (.d (.int k (0-n))) (-9223372036854775808<=0-n/\0-n<=9223372036854775807)else .plain (.d (.int k (k.wrap (0-n))))
 |_,_=>.fail
def QD:LV->Bool
 | .when _ (.d (.bool x))=>x
 | .d (.bool x)=>x
 |_=>false
def bok:LV->Bool
 | .when e (.d (.bool _))=>e
 | .d (.bool _)=>true
 |_=>false
def nP(c a b:LV):kQ:=
 match c with
 | .d (.bool p)=>.cond (.d (.bool (bif p then QD a else QD b))) ((p=true->bok a=true)/\(p=false->bok b=true))
 |_=>.fail
def FT(agg:Bool)(s off:Nat)(cs:List LV):LV:=if agg then mkAgg ((cs.drop off).take s)else cs.getD off .junk
def Dh(agg:Bool)(s off:Nat)(cs:List DV):DV:=if agg then .agg ((cs.drop off).take s)else cs.getD off default
def nQ(H:Nat->bB)(t:fE)(x:LV):kQ:=
 match x with
 | .bx id off=>match H id with
   | .box _ cs=>.cond (FT t.k.agg t.size off cs) (off+t.size<=cs.length/\(t.k.agg=false->t.size=1))
   |_=>.fail
 | .d (.ro cs)=>.cond (.d (Dh t.k.agg t.size 0 cs)) (t.size<=cs.length/\(t.k.agg=false->t.size=1))
 | .rp id k j=>match H id with
   | .row _ _ xs=>.cond (.d (Dh t.k.agg t.size j (aQ (xs.getD k default)))) (k<xs.length/\j+t.size<=(aQ (xs.getD k default)).length/\(t.k.agg=false->t.size=1))
   |_=>.fail
 |_=>.fail
def dI{α:Type}(off:Nat)(cs new:List α):List α:=cs.take off++new++cs.drop (off+new.length)
def iL(H:Nat->bB)(t:fE)(x y:LV):kQ:=
 match x with
 | .bx id off=>match H id with
   | .box false cs=>⟨.junk,off+t.size<=cs.length/\(dV y).length=t.size/\iU H y=true,[(id,.box false (dI off cs (dV y)))]⟩
   |_=>.fail
 | .rp id k j=>match H id with
   | .row false s xs=>match close H 8 y with
     |some z=>if j=0/\t.size=s then⟨.junk,k<xs.length/\(aQ z).length=s/\id∉bR H 8 y,(id,.row false s (xs.set k z))::bI H (bR H 8 y)⟩
       else⟨.junk,k<xs.length/\j+t.size<=s/\(aQ z).length=t.size/\1<s/\id∉bR H 8 y,(id,.row false s (xs.set k (.agg (dI j (aQ (xs.getD k default)) (aQ z)))))::bI H (bR H 8 y)⟩
     |none=>.fail
   |_=>.fail
 |_=>.fail
def Pj(i:Nat):List (Nat×LV)->Option LV
 |[]=>none
 |p::r=>if p.1=i then some p.2 else Pj i r
def Di(fs:List (Nat×TypeId))(T:TypeId->fE):List LV->List (Nat×LV)->Option (List LV)
 |cs,[]=>some cs
 |cs,(i,x)::r=>match fs[i]? with
  |none=>none
  |some (off,ty)=>if(dV x).length=(T ty).size/\off+(T ty).size<=cs.length then Di fs T (dI off cs (dV x)) r else none
def rQ(T:TypeId->fE)(H:Nat->bB)(t:TypeId)(ps:List (Nat×LV)):kQ:=
 match(T t).k with
 | .struct fs=>match Di fs T ((T t).zero.map oO) ps with
   |some cs=>.cond (mkAgg cs) (∀p∈ps,iU H p.2=true)
   |none=>.fail
 | .arr n e=>match Di ((List.range n).map λi=>(i*(T e).size,e)) T ((T t).zero.map oO) ps with
   |some cs=>.cond (mkAgg cs) (∀p∈ps,iU H p.2=true)
   |none=>.fail
 |_=>.fail
def eS(T:TypeId->fE)(H:Nat->bB)(dst:Nat)(t:TypeId)(n:Nat)(ps:List (Nat×LV)):kQ:=
 match(T t).k with
 | .slice e=>match cM (ps.map λp=>close H 8 p.2)with
   |some xs=>⟨.ow dst 0 n,H dst=.absent/\ps.map (·.1)=List.range n/\0<(T e).size/\(∀x∈xs,(aQ x).length=(T e).size)/\n*(T e).size<=16777216,
     (dst,.row false (T e).size xs)::bI H (ps.flatMap λp=>bR H 8 p.2)⟩
   |none=>.fail
 |_=>.fail
def fS(T:TypeId->fE)(H:Nat->bB)(dst:Nat)(t:TypeId)(n:Nat)(ps:List (Nat×LV)):kQ:=.fail
def lI(T:TypeId->fE)(H:Nat->bB)(s:TypeId)(x:LV)(f:Nat):kQ:=
 match(T s).k with
 | .struct fs=>match fs[f]? with
   |some (off,ty)=>match x with
    | .bx id o=>.cond (.bx id (o+off)) ((T ty).size≠0/\(H id).live=true)
    | .rp id k j=>.cond (.rp id k (j+off)) ((T ty).size≠0/\(H id).live=true)
    | .d (.ro cs)=>.cond (.d (.ro (cs.drop off))) ((T ty).size≠0)
    |_=>.fail
   |none=>.fail
 |_=>.fail
def uN(T:TypeId->fE)(s:TypeId)(x:LV)(f:Nat):kQ:=
 match(T s).k with
 | .struct fs=>match fs[f]? with
   |some (off,ty)=>match x with
    | .d (.agg cs)=>.cond (.d (Dh (T ty).k.agg (T ty).size off cs)) (off+(T ty).size<=cs.length/\((T ty).k.agg=false->(T ty).size=1))
    | .agg cs=>.cond (FT (T ty).k.agg (T ty).size off cs) (off+(T ty).size<=cs.length/\((T ty).k.agg=false->(T ty).size=1))
    |_=>.fail
   |none=>.fail
 |_=>.fail
def fJ(T:TypeId->fE)(H:Nat->bB)(t:TypeId)(x i:LV):kQ:=
 match(T t).k,x,i with
 | .slice e,.d (.sl xs),.d (.int _ i)=>.cond (.d (.ro (aQ (xs.getD i.toNat default)))) (0<=i/\i<xs.length/\(aQ (xs.getD i.toNat default)).length=(T e).size)
 | .slice e,.ow id k n,.d (.int _ i)=>match H id with
   | .row _ s _=>.cond (.rp id (k+i.toNat) 0) (0<=i/\i<n/\s=(T e).size)
   |_=>.fail
 | .slice e,.oc id k n _,.d (.int _ i)=>match H id with
   | .row _ s _=>.cond (.rp id (k+i.toNat) 0) (0<=i/\i<n/\s=(T e).size)
   |_=>.fail
 | .arr n e,.bx id off,.d (.int _ i)=>.cond (.bx id (off+i.toNat*(T e).size)) (0<=i/\i<n/\(H id).live=true)
 | .arr n e,.rp id k j,.d (.int _ i)=>.cond (.rp id k (j+i.toNat*(T e).size)) (0<=i/\i<n/\(H id).live=true)
 | .arr n e,.d (.ro cs),.d (.int _ i)=>.cond (.d (.ro (cs.drop (i.toNat*(T e).size)))) (0<=i/\i<n)
 |_,_,_=>.fail
def aZ(T:TypeId->fE)(t:TypeId)(x i:LV):kQ:=
 match(T t).k,x,i with
 | .str,.d (.str s),.d (.int _ i)=>.cond (.d (.int .u8 (s.getD i.toNat 0).toNat)) (0<=i/\i<s.length)
 | .arr n e,.d (.agg cs),.d (.int _ i)=>.cond (.d (Dh (T e).k.agg (T e).size (i.toNat*(T e).size) cs)) (0<=i/\i<n/\i.toNat*(T e).size+(T e).size<=cs.length/\((T e).k.agg=false->(T e).size=1))
 |_,_,_=>.fail
def kR:Nat->Nat->List DV->List DV
 |0,_,_=>[]
 |n+1,s,cs=>.agg (cs.take s)::kR n s (cs.drop s)
def jA(d:Int):Option LV->Option Int
 |none=>some d
 |some (.d (.int _ i))=>some i
 |_=>none
def lJ(T:TypeId->fE)(H:Nat->bB)(t:TypeId)(x:LV)(lo hi mx:Option LV):kQ:=
 match(T t).k,x with
 | .str,.d (.str s)=>match jA 0 lo,jA s.length hi,mx with
   |some l,some h,none=>.cond (.d (.str ((s.take h.toNat).drop l.toNat))) (0<=l/\l<=h/\h<=s.length)
   |_,_,_=>.fail
 | .slice e,.d (.sl xs)=>match jA 0 lo,jA xs.length hi,mx with
   |some l,some h,none=>.cond (.d (.sl ((xs.take h.toNat).drop l.toNat))) (0<=l/\l<=h/\h<=xs.length/\∀x∈xs,(aQ x).length=(T e).size)
   |some l,some h,some (.d (.int _ m))=>.cond .nl (l=0/\h=0/\m=0)
   |_,_,_=>.fail
 | .slice e,.ow id k n=>match H id with
   | .row _ s xs=>match jA 0 lo,jA n hi,mx with
     |some l,some h,none=>.cond (.ow id (k+l.toNat) (h-l).toNat) (0<=l/\l<=h/\(h<=n\/k+h<=xs.length)/\s=(T e).size)
     |some l,some h,some (.d (.int _ m))=>.cond .nl (l=0/\h=0/\m=0)
     |_,_,_=>.fail
   |_=>.fail
 | .slice _,.nl=>match jA 0 lo,jA 0 hi,mx with
   |some l,some h,none=>.cond .nl (l=0/\h=0)
   |_,_,_=>.fail
 | .slice e,.oc id k n c=>match H id with
   | .row _ s _=>match jA 0 lo,jA n hi,mx with
     |some l,some h,none=>.cond (.oc id (k+l.toNat) (h-l).toNat (c-l.toNat)) (0<=l/\l<=h/\h<=c/\s=(T e).size)
     |_,_,_=>.fail
   |_=>.fail
 | .arr n e,.d (.ro cs)=>match lo,hi,mx with
   |none,none,none=>if(T e).k.agg then .cond (.d (.sl (kR n (T e).size cs))) (0<n/\n<=1000/\0<(T e).size/\n*(T e).size<=cs.length/\(T e).k.isNone=false)
    else .cond (.d (.sl (cs.take n))) (0<n/\n<=1000/\(T e).size=1/\n<=cs.length/\(T e).k.isNone=false/\∀x∈cs.take n,(aQ x).length=1)
   |none,some (.d (.int _ h)),none=>if(T e).k.agg then .fail
    else .cond (.d (.sl (cs.take h.toNat))) (0<h/\h<=n/\n<=1000/\(T e).size=1/\n<=cs.length/\(T e).k.isNone=false/\∀x∈cs.take n,(aQ x).length=1)
   |_,_,_=>.fail
 |_,_=>.fail
def jR(H:Nat->bB):LV->Option (List DV)
 | .d (.sl xs)=>some xs
 | .d (.str s)=>some (s.map λb=>.int .u8 b.toNat)
 | .nl=>some []
 | .ow id k n=>match H id with
   | .row _ _ xs=>some ((xs.drop k).take n)
   |_=>none
 | .oc id k n _=>match H id with
   | .row _ _ xs=>some ((xs.drop k).take n)
   |_=>none
 |_=>none
def lK(T:TypeId->fE)(H:Nat->bB)(dst:Nat)(t:TypeId)(s x:LV):kQ:=.fail
def lL(T:TypeId->fE)(H:Nat->bB)(dst:Nat)(t:TypeId)(lo c:Nat)(s x:LV):kQ:=.fail
def nR(T:TypeId->fE)(H:Nat->bB)(dst:Nat)(t:TypeId)(lo c:Nat)(v:Value)(s x:LV):kQ:=.fail
def nS(T:TypeId->fE)(H:Nat->bB)(dst:Nat)(t:TypeId)(kid:Nat)(s x:LV):kQ:=.fail
def lM(T:TypeId->fE)(H:Nat->bB)(dst:Nat)(t:TypeId)(s x:LV):kQ:=.fail
def jB(T:TypeId->fE)(H:Nat->bB)(dst:Nat)(t:TypeId)(s x:LV):kQ:=
 match(T t).k,jR H x with
 | .slice e,some ys=>match s with
   | .ow id k n=>match H id with
     | .row false sz xs=>⟨.ow dst 0 (n+ys.length),H dst=.absent/\k=0/\sz=(T e).size/\(∀y∈ys,(aQ y).length=sz)/\(n+ys.length)*(T e).bytes<=140737488355328/\n+ys.length<=140737488355328,
         [(dst,.row false sz (xs.take n++ys)),(id,.dead)]⟩
     |_=>.fail
   | .nl=>⟨.ow dst 0 ys.length,H dst=.absent/\0<(T e).size/\(∀y∈ys,(aQ y).length=(T e).size)/\ys.length*(T e).bytes<=140737488355328/\ys.length<=140737488355328,[(dst,.row false (T e).size ys)]⟩
   |_=>.fail
 |_,_=>.fail
def fV(T:TypeId->fE)(H:Nat->bB)(t:TypeId)(s x:LV):kQ:=
 match(T t).k,jR H x,s with
 | .slice e,some ys,.ow id k n=>match H id with
   | .row false sz xs=>⟨.ow id k (n+ys.length),sz=(T e).size/\(∀y∈ys,(aQ y).length=sz)/\k+n+ys.length<=xs.length,[(id,.row false sz (dI (k+n) xs ys))]⟩
   |_=>.fail
 |_,_,_=>.fail
def qQ(T:TypeId->fE)(H:Nat->bB)(t:TypeId)(x:LV)(lo hi mx:Option LV):kQ:=
 match(T t).k,x with
 | .slice _,.ow id _ n=>match jA 0 lo,jA n hi,mx with
   |some l,some h,some (.d (.int _ m))=>.cond .junk (0<=l/\l<=h/\h<=m/\m<=n/\(H id).live=true)
   |_,_,_=>.fail
 | .slice e,.d (.sl xs)=>match jA 0 lo,jA xs.length hi,mx with
   |some l,some h,some (.d (.int _ m))=>.cond (.d (.sl ((xs.take h.toNat).drop l.toNat))) (0<=l/\l<=h/\h<=m/\m<=xs.length/\∀x∈xs,(aQ x).length=(T e).size)
   |_,_,_=>.fail
 | .slice e,.oc id k n c=>match H id with
   | .row _ s _=>match jA 0 lo,jA n hi,mx with
     |some l,some h,some (.d (.int _ m))=>.cond (.oc id (k+l.toNat) (h-l).toNat (m-l).toNat) (0<=l/\l<=h/\h<=m/\m<=c/\s=(T e).size)
     |_,_,_=>.fail
   |_=>.fail
 |_,_=>.fail
def lN(T:TypeId->fE)(H:Nat->bB)(t:TypeId)(x:LV):kQ:=
 match(T t).k,x with
 | .slice e,.ow id k n=>match H id with
   | .row false sz xs=>⟨.tup [],sz=(T e).size/\k+n<=xs.length,[(id,.row false sz (dI k xs (List.replicate n (iV (T e)))))]⟩
   |_=>.fail
 | .slice e,.oc id k n _=>match H id with
   | .row false sz xs=>⟨.tup [],sz=(T e).size/\k+n<=xs.length,[(id,.row false sz (dI k xs (List.replicate n (iV (T e)))))]⟩
   |_=>.fail
 |_,_=>.fail
def rR(T:TypeId->fE)(H:Nat->bB)(t:TypeId)(d s:LV):kQ:=.fail
def Zp(n:Nat):LV->LV
 | .oc j k m c=>.oc j k (min m n) c
 |x=>x
def pD(T:TypeId->fE)(H:Nat->bB)(t:TypeId)(d s:LV):kQ:=.fail
def nT(T:TypeId->fE)(H:Nat->bB)(dst:Nat)(t:TypeId)(n c:LV):kQ:=
 match(T t).k,n,c with
 | .slice e,.d (.int _ n),.d (.int _ c)=>⟨.ow dst 0 n.toNat,H dst=.absent/\0<=n/\n=c/\n<=16777216/\0<(T e).size/\n*(T e).bytes<=140737488355328,[(dst,.row false (T e).size (List.replicate n.toNat (iV (T e))))]⟩
 |_,_,_=>.fail
def uO(op:BinOp)(x y:LV):kQ:=
 match x,y with
 | .d (.int k a),.d (.int k' b)=>match op with
   | .add=>.cond (.d (.int k (k.wrap (a+b)))) (k=k')
   | .sub=>.cond (.d (.int k (k.wrap (a-b)))) (k=k')
   | .mul=>.cond (.d (.int k (k.wrap (a*b)))) (k=k')
   |_=>.fail
 |_,_=>.fail
def rU(T:TypeId->fE)(H:Nat->bB)(t:TypeId)(x:LV):kQ:=.fail
def Jl(H:Nat->bB):LV->Option Nat
 | .d (.sl xs)=>some xs.length
 | .nl=>some 0
 | .ow id _ n=>if(H id).live then some n else none
 |_=>none
def wO(T:TypeId->fE)(H:Nat->bB)(t:TypeId)(lo c:Nat)(x:LV):kQ:=.fail
def Dj:Operand->Bool
 | .const (.slice none 0 0)=>true
 |_=>false
def nM(T:TypeId->fE)(H:Nat->bB)(t:TypeId)(e b:Bool)(op:BinOp)(x:LV):kQ:=
 match(T t).k,op,Jl H x with
 | .slice _,.eql,some n=>.cond (.d (.bool b)) (n=0->e=true)
 | .slice _,.neq,some n=>.cond (.d (.bool (!b))) (n=0->e=true)
 |_,_,_=>.fail
def qR(T:TypeId->fE)(H:Nat->bB)(t:TypeId)(x:LV):kQ:=
 match(T t).k,x with
 | .str,.d (.str s)=>.plain (.d (.int .i64 s.length))
 | .slice _,.d (.sl xs)=>.plain (.d (.int .i64 xs.length))
 | .slice _,.ow id _ n=>.cond (.d (.int .i64 n)) ((H id).live=true)
 | .slice _,.oc id _ n _=>.cond (.d (.int .i64 n)) ((H id).live=true)
 | .slice _,.nl=>.plain (.d (.int .i64 0))
 | .arr n _,_=>.plain (.d (.int .i64 n))
 | .map _ _,.d (.mp ks _)=>.plain (.d (.int .i64 ks.length))
 | .map _ _,.mp id=>match H id with
   | .map _ ks _=>.plain (.d (.int .i64 ks.length))
   |_=>.fail
 |_,_=>.fail
def wP(mx:Bool):List LV->kQ
 |[.d (.int k a),.d (.int k' b)]=>if k=k' then .plain (.d (.int k (if mx then(if b>a then b else a)else(if b<a then b else a))))else .fail
 |_=>.fail
def bD(x:LV)(i:Nat):kQ:=
 match x with
 | .tup vs=>.cond (vs.getD i .junk) (i<vs.length)
 |_=>.fail
def uP(H:Nat->bB):LV->Option (List DV)
 | .d (.str _)=>none
 |l=>jR H l
def Mo:DV->UInt8
 | .int _ n=>UInt8.ofNat n.toNat
 |_=>0
def nU(T:TypeId->fE)(H:Nat->bB)(s t:TypeId)(x:LV):kQ:=
 match(T s).k,(T t).k,x with
 | .int _,.int k,.d (.int _ n)=>.plain (.d (.int k (k.wrap n)))
 | .str,.str,.d (.str s)=>.plain (.d (.str s))
 | .slice e,.str,x=>match(T e).k,uP H x with
   | .int .u8,some ys=>.cond (.d (.str (ys.map Mo))) (∀y∈ys,∃n,y=.int .u8 n)
   |_,_=>.fail
 |_,_,_=>.fail
inductive RV where
 |d (x:DV)
 |own (size:Nat) (xs:List DV)
 |tup (vs:List RV)
 deriving Inhabited
structure QE where
 v:RV
 fresh:Bool
def Jm(d:Nat):RV->LV
 | .d x=>.d x
 | .own _ xs=>.ow d 0 xs.length
 | .tup _=>.junk
def mV(d:Nat):RV->List (Nat×bB)
 | .own s xs=>[(d,.row false s xs)]
 |_=>[]
def pM:Nat->List RV->List LV
 |_,[]=>[]
 |d,v::r=>Jm d v::pM (d+1000) r
def cO:Nat->List RV->List (Nat×bB)
 |_,[]=>[]
 |d,v::r=>mV d v++cO (d+1000) r
open Go.RowKit
def AQ(w w':World)(E:Nat->Prop)(B:Option Nat):RV->Value->Prop
 | .d x,v=>RD w' E x v
 | .own s xs,v=>0<s/\(∀x∈xs,(aQ x).length=s)/\((B=none/\xs=[]/\∃a,v=.slice a 0 0)\/
     ∃b c cur e,B=some b/\v=.slice (some ⟨b,0,none⟩) xs.length c/\w.heap.size<=b/\w'.heap[b]? =some (.cells cur e (0,0))/\xs.length<=c/\c<=maxLen/\c*s=cur.size/\
      ∀(i:Nat) (d:DV) (v:Value),(bS xs)[i]? =some d->cur[i]? =some v->v.oneCell'=true/\RD w' E d v)
 | .tup _,_=>False
def Jn(w w':World)(E:Nat->Prop)(r:RV)(v:Value):Prop:=
 match r with
 | .tup rs=>∃(vs:List Value) (B:Nat->Option Nat),v=.tuple vs.toArray/\vs.length=rs.length/\(∀i j b,B i=some b->B j=some b->i=j)/\
     ∀(i:Nat) (r:RV) (v:Value),rs[i]? =some r->vs[i]? =some v->AQ w w' (λk=>E k\/∃j,B j=some k) (B i) r v
 |r=>∃B:Option Nat,AQ w w' (λk=>E k\/B=some k) B r v
def pN(P:Program)(f:FuncId):Prop:=∃fn,P.funcs[f]? =some fn/\(fn.name== "runtime.NumGoroutine")=false/\fn.body.isSome=true
def Ok(P:Program)(f:FuncId)(args:List DV)(r:QE):Prop:=
 pN P f/\∀(w:World) (X:Nat->Prop) (vs:List Value),Xl w X->Mm w X args vs->
  Calls P f vs.toArray w λe w'=>∃v,e=.returned v/\zN w.heap.size w w'/\Jn w w' (λk=>X k\/(r.fresh=true/\k<w.heap.size)) r.v v
def Zq(P:Program)(f:FuncId)(args:List DV)(Rel:QE->Prop):Prop:=
 pN P f/\∀(w:World) (X:Nat->Prop) (vs:List Value),Xl w X->Mm w X args vs->
  Calls P f vs.toArray w λe w'=>∃v r,Rel r/\e=.returned v/\zN w.heap.size w w'/\Jn w w' (λk=>X k\/(r.fresh=true/\k<w.heap.size)) r.v v
theorem Ok.toR{P:Program}{f:FuncId}{args:List DV}{r:QE}(h:Ok P f args r):Zq P f args (λr'=>r'=r):=
 ⟨h.1,λw X vs hX hr=>(h.2 w X vs hX hr).mono λ_ _ ⟨v,h1,h2,h3⟩=>⟨v,r,rfl,h1,h2,h3⟩⟩
def eF:LV->Option (FuncId×List LV)
 | .d (.fn f cs)=>some (f,cs.map .d)
 | .fn f cs=>some (f,cs)
 | .d (.bm f _)=>some (f,[])
 | .bm f _=>some (f,[])
 |_=>none
def cS:LV->List LV
 | .d (.bm _ cs)=>cs.map .d
 | .bm _ cs=>cs
 |_=>[]
def Dk(d:Nat):RV->LV
 | .tup vs=>.tup (pM d vs)
 |v=>Jm d v
def gW(d:Nat):RV->List (Nat×bB)
 | .tup vs=>cO d vs
 |v=>mV d v
def iG(P:Program)(f:FuncId)(args:List LV)(h:List (Nat×bB))(fin:List (Nat×bB))(ret:LV):Prop:=
 pN P f/\∀(w:World) (X:Nat->Prop) (β:Nat->Option Nat) (vs:List Value),dR ⟨w,β,aL h,h.map (·.1),false⟩ X (aL h) β w->vs.length=args.length->
  (∀(i:Nat) (c:LV) (v:Value),args[i]? =some c->vs[i]? =some v->R w (Ex X β (aL h)) β (aL h) c v)->
  Calls P f vs.toArray w λe w'=>∃v β',e=.returned v/\dR ⟨w,β,aL h,h.map (·.1),false⟩ X (aL fin) β' w'/\R w' (Ex X β' (aL fin)) β' (aL fin) ret v
def Xm(P:Program)(f:FuncId)(args:List LV)(h:List (Nat×bB))(Rel:List (Nat×bB)->LV->Prop):Prop:=
 pN P f/\∀(w:World) (X:Nat->Prop) (β:Nat->Option Nat) (vs:List Value),dR ⟨w,β,aL h,h.map (·.1),false⟩ X (aL h) β w->vs.length=args.length->
  (∀(i:Nat) (c:LV) (v:Value),args[i]? =some c->vs[i]? =some v->R w (Ex X β (aL h)) β (aL h) c v)->
  Calls P f vs.toArray w λe w'=>∃v β' fin ret,Rel fin ret/\e=.returned v/\dR ⟨w,β,aL h,h.map (·.1),false⟩ X (aL fin) β' w'/\R w' (Ex X β' (aL fin)) β' (aL fin) ret v
theorem iG.toR{P:Program}{f:FuncId}{args:List LV}{h fin:List (Nat×bB)}{ret:LV}(k:iG P f args h fin ret):Xm P f args h (λfin' ret'=>fin'=fin/\ret'=ret):=
 ⟨k.1,λw X β vs m hl hr=>(k.2 w X β vs m hl hr).mono λ_ _ ⟨v,β',h1,h2,h3⟩=>⟨v,β',fin,ret,⟨rfl,rfl⟩,h1,h2,h3⟩⟩
structure Gen where
 σ:List (Nat×Nat)
 new:List (Nat×Nat)
 shut:List Nat
 fin:List (Nat×bB)
 ret:LV
inductive kS where
 |plain (r:QE)
 |gen (g:Gen)
 |inp
 |wrap
 |cap (lo c:Nat)
 |app (lo c:Nat)
 |appv (lo c:Nat) (v:Value)
 |tie (kid:Nat)
 |nil (e b:Bool)
 |rel (Rel:QE->Prop) (fr:Bool) (r:QE)
 |genR (g:Gen) (Rel:List (Nat×bB)->LV->Prop)
def wQ:Option kS->Option kS->Prop
 |some (.cap lo _),r'=>∃c,lo<=c/\c<=maxLen/\r'=some (.cap lo c)
 |some (.app lo _),r'=>∃c,lo<=c/\c<=maxLen/\r'=some (.app lo c)
 |some (.appv lo _ _),r'=>∃c v,lo<=c/\c<=maxLen/\r'=some (.appv lo c v)
 |some (.nil e _),r'=>∃b,(b=true->e=true)/\r'=some (.nil e b)
 |some (.rel Rel fr _),r'=>∃r,Rel r/\r.fresh=fr/\r'=some (.rel Rel fr r)
 |some (.genR g Rel),r'=>∃fin ret,Rel fin ret/\r'=some (.genR {g with fin:=fin,ret:=ret} Rel)
 |r,r'=>r'=r
def BI:Option kS->Bool
 |some .inp=>true
 |_=>false
def gK(σ new:List (Nat×Nat)):List (Nat×Nat):=(σ.map λp=>(p.2,p.1))++new
def lQ(H:Nat->bB)(σ:List (Nat×Nat))(shut:List Nat):Nat->List LV->Option (List LV)
 |_,[]=>some []
 |i,l::r=>match lQ H σ shut (i+1) r with
  |none=>none
  |some r'=>if shut.contains i then(close H 8 l).map (λx=>.d x::r')else some (ren σ 8 l::r')
def lR(H:Nat->bB)(shut:List Nat):Nat->List LV->List Nat
 |_,[]=>[]
 |i,l::r=>(if shut.contains i then bR H 8 l else [])++lR H shut (i+1) r
def cT(P:Program)(H:Nat->bB)(r:Option kS)(dst:Nat)(callee:LV)(args:List LV):kQ:=
 match eF callee,r with
 |some (f,caps),some (.plain r)=>match cM ((args++caps).map (close H 8))with
  |some az=>⟨Dk dst r.v,Ok P f az r/\(∀p∈gW dst r.v,H p.1=.absent),
    gW dst r.v++(if r.fresh then []else bI H ((args++caps).flatMap (bR H 8)))⟩
  |none=>.fail
 |some (f,caps),some (.gen g)=>match lQ H g.σ g.shut 0 (args++caps)with
  |some az=>⟨ren (gK g.σ g.new) 8 g.ret,
    iG P f az (g.σ.map λp=>(p.2,cQ g.σ (H p.1))) g.fin g.ret/\(∀p∈g.σ,(H p.1).live=true)/\((gK g.σ g.new).map (·.1)).Nodup/\((gK g.σ g.new).map (·.2)).Nodup/\
     (∀p∈g.new,H p.2=.absent/\p.2%1000=dst%1000/\dst<=p.2)/\∀id∈lR H g.shut 0 (args++caps),id∉g.σ.map (·.1),
    ((gK g.σ g.new).map λp=>(p.2,cQ (gK g.σ g.new) (aL g.fin p.1)))++bI H (lR H g.shut 0 (args++caps))⟩
  |none=>.fail
 |some (f,caps),some (.rel Rel fr r)=>match cM ((args++caps).map (close H 8))with
  |some az=>⟨Dk dst r.v,Zq P f az Rel/\(∀q,Rel q->q.fresh=fr)/\(∀p∈gW dst r.v,H p.1=.absent),
    gW dst r.v++(if fr then []else bI H ((args++caps).flatMap (bR H 8)))⟩
  |none=>.fail
 |some (f,caps),some (.genR g Rel)=>match lQ H g.σ g.shut 0 (args++caps)with
  |some az=>⟨ren (gK g.σ g.new) 8 g.ret,
    Xm P f az (g.σ.map λp=>(p.2,cQ g.σ (H p.1))) Rel/\(∀p∈g.σ,(H p.1).live=true)/\((gK g.σ g.new).map (·.1)).Nodup/\((gK g.σ g.new).map (·.2)).Nodup/\
     (∀p∈g.new,H p.2=.absent/\p.2%1000=dst%1000/\dst<=p.2)/\∀id∈lR H g.shut 0 (args++caps),id∉g.σ.map (·.1),
    ((gK g.σ g.new).map λp=>(p.2,cQ (gK g.σ g.new) (aL g.fin p.1)))++bI H (lR H g.shut 0 (args++caps))⟩
  |none=>.fail
 |_,_=>.fail
def rV(T:TypeId->fE)(t:TypeId)(x:LV):kQ:=
 match(T t).k,x with
 | .arr n e,.d (.sl xs)=>.cond (.d (.ro (bS (xs.take n)))) (0<n/\n<=xs.length/\∀x∈xs,(aQ x).length=(T e).size)
 |_,_=>.fail
def pE(P:Program)(T:TypeId->fE)(H:Nat->bB)(f:LV)(args:List LV):kQ:=.fail
def bT(P:Program)(T:TypeId->fE)(H:Nat->bB)(g:Operand->LV)(r:Option kS)(o:Oper):kQ:=
 let dst:=o.dst.getD 0
 match o.op with
 | .move x=>.plain (g x)
 | .assign x=>match g x,(T o.type).k,H dst with
   | .nl,.slice e,.absent=>⟨.ow dst 0 0,0<(T e).size,[(dst,.row false (T e).size [])]⟩
   |y,_,_=>.plain y
 | .pick c a b=>nP (g c) (g a) (g b)
 | .alloc t=>⟨.bx dst 0,H dst=.absent/\(T t).k.isNone=false,[(dst,.box false ((T t).zero.map oO))]⟩
 | .box _ x=>⟨.bx dst 0,H dst=.absent/\iU H (g x)=true,[(dst,.box false (dV (g x)))]⟩
 | .build t ps=>rQ T H t (ps.toList.map λp=>(p.1,g p.2))
 | .buildSlice t n ps=>if BI r then fS T H dst t n (ps.toList.map λp=>(p.1,g p.2))else eS T H dst t n (ps.toList.map λp=>(p.1,g p.2))
 | .load t a=>if(T t).k.isNone then .fail else nQ H (T t) (g a)
 | .store t a x=>if(T t).k.isNone then .fail else iL H (T t) (g a) (g x)
 | .nilCheck x=>match g x with
   | .bx id off=>.cond (.bx id off) ((H id).live=true)
   | .rp id k j=>.cond (.rp id k j) ((H id).live=true)
   | .d (.ro cs)=>.plain (.d (.ro cs))
   | .d (.fn f cs)=>.plain (.d (.fn f cs))
   | .fn f cs=>.plain (.fn f cs)
   |_=>.fail
 | .binOp op t x y _=>match r with
   |some .wrap=>uO op (g x) (g y)
   |some (.nil e b)=>if Dj y then nM T H t e b op (g x)else .fail
   |_=>if(T t).k.isPtr then qP op (g x) (g y)else fU (T t).eqk (T t).k.isBool op (g x) (g y)
 | .unOp op _ x=>Dg op (g x)
 | .convert s t x=>nU T H s t (g x)
 | .makeFunc (.func f) first cs=>if first.size=0 then .plain (.fn f (cs.toList.map g))else .cond (.bm f (first.toList.map g)) (cs.size=0)
 | .sliceToArrayPointer t x=>rV T t (g x)
 | .slice t x lo hi mx=>if mx.isSome&& !hi.isSome then .fail else if BI r&&mx.isSome then qQ T H t (g x) (lo.map g) (hi.map g) (mx.map g)else lJ T H t (g x) (lo.map g) (hi.map g) (mx.map g)
 | .fieldAddr s x f=>lI T H s (g x) f
 | .field s x f=>uN T s (g x) f
 | .indexAddr t x i=>fJ T H t (g x) (g i)
 | .index t x i=>aZ T t (g x) (g i)
 | .extract x i=>bD (g x) i
 | .makeSlice t n c=>nT T H dst t (g n) (g c)
 | .makeMap _ none=>lH H dst
 | .lookup t x i ok=>cR T H t (g x) (g i) ok
 | .mapUpdate t m k x=>gV T H t (g m) (g k) (g x)
 | .insert t m k x=>gV T H t (g m) (g k) (g x)
 | .range t x=>match(T t).k with
   | .map _ _=>pC H dst (g x)
   |_=>.fail
 | .call {callee:=.value f,args, .. }=>if BI r then pE P T H (g f) (args.toList.map g)else cT P H r dst (g f) (cS (g f)++args.toList.map g)
 | .call {callee:=.builtin b,args,argTypes}=>match b,args.toList.map g,argTypes.toList with
   | .len,[x],[t]=>qR T H t x
   | .append,[s,x],[t,u]=>if t=u\/(T u).k.isStr=true then(match r with
     |some .inp=>fV T H t s x
     |some (.app lo c)=>lL T H dst t lo c s x
     |some (.appv lo c v)=>nR T H dst t lo c v s x
     |some (.tie kid)=>nS T H dst t kid s x
     |_=>if TB s then lK T H dst t s x else jB T H dst t s x)else if(T u).k.isInt then lM T H dst t s x else .fail
   | .cap,[x],[t]=>match r with
     |some (.cap lo c)=>wO T H t lo c x
     |_=>rU T H t x
   | .clear,[x],[t]=>lN T H t x
   | .copy,[d,s],[t,_]=>if TB d then pD T H t d s else rR T H t d s
   | .min,l,_=>wP false l
   | .max,l,_=>wP true l
   | .delete,[m,k],[t,_]=>pL T H t m k
   |_,_,_=>.fail
 |_=>.fail
section
open Go.RowKit
theorem aX{α:Type}(f:Nat->α)(i:Nat)(x:α):cE f i x i=x:=by simp[cE]
theorem cG{α:Type}(f:Nat->α){i j:Nat}(x:α)(h:j≠i):cE f i x j=f j:=by simp[cE,h]
section
variable{w:World} {E:Nat->Prop} {β:Nat->Option Nat} {H:Nat->bB}
theorem RD.one{x:DV}{v:Value}(h:RD w E x v)(hx:∀cs,x≠ .agg cs):v.oneCell'=true:=by
 cases h<;>first|rfl|(exact absurd rfl (hx _))|assumption
theorem wR{v:Value}(h:v.oneCell'=true):v.cells= #[v]:=by cases v<;>simp_all[Value.oneCell',Value.cells]
theorem Mp{x:DV}(hx:∀cs,x≠ .agg cs):aQ x=[x]:=by cases x<;>first|rfl|exact absurd rfl (hx _)
theorem RD.cells{x:DV}{v:Value}(h:RD w E x v):v.cells.toList.length=(aQ x).length/\∀(i:Nat) (c:DV) (u:Value),(aQ x)[i]? =some c->v.cells.toList[i]? =some u->RD w E c u:=by
 by_cases hx:∃cs,x=.agg cs
 ·obtain⟨cs,rfl⟩:=hx;cases h with
  |agg cs vs hl _ h=>exact⟨by simpa [Value.cells,aQ]using hl,λi c u hc hu=>h i c u hc (by simpa [Value.cells]using hu)⟩
 ·have hx':∀cs,x≠ .agg cs:=λcs e=>hx ⟨cs,e⟩;have ho:=h.one hx';rw[wR ho,Mp hx'];refine⟨rfl,λi c u hc hu=>?_⟩;cases i with
  |zero=>simp at hc hu;subst hc;subst hu;exact h
  |succ i=>simp at hc
theorem RD.cells1{x:DV}{v:Value}(h:RD w E x v):∀u∈v.cells.toList,u.oneCell'=true:=by
 by_cases hx:∃cs,x=.agg cs
 ·obtain⟨cs,rfl⟩:=hx;cases h with
  |agg cs vs hl h1 h=>intro u hu;exact h1 u (by simpa [Value.cells]using hu)
 ·have ho:=h.one λcs e=>hx ⟨cs,e⟩;rw[wR ho];intro u hu;simp at hu;subst hu;exact ho
theorem R.cells{x:LV}{v:Value}(hs:iU H x=true)(h:R w E β H x v):v.cells.toList.length=(dV x).length/\∀(i:Nat) (c:LV) (u:Value),(dV x)[i]? =some c->v.cells.toList[i]? =some u->R w E β H c u:=by
 have one:∀(x:LV) (v:Value),R w E β H x v->dV x=[x]->v.oneCell'=true->v.cells.toList.length=(dV x).length/\∀(i:Nat) (c:LV) (u:Value),(dV x)[i]? =some c->v.cells.toList[i]? =some u->R w E β H c u:=by
  intro x v h hx ho;rw[wR ho,hx];refine⟨rfl,λi c u hc hu=>?_⟩;cases i with
  |zero=>simp at hc hu;subst hc;subst hu;exact h
  |succ i=>simp at hc
 have h0:=h;cases h with
 |d x v h=>
  obtain⟨h1,h2⟩:=h.cells;have e:dV (.d x)=(aQ x).map .d:=by cases x<;>rfl
  rw[e];refine⟨by simpa using h1,λi c u hc hu=>?_⟩;rw[List.getElem?_map]at hc;cases hd:(aQ x)[i]? with
  |none=>simp[hd]at hc
  |some d=>simp[hd]at hc;subst hc;exact .d _ _ (h2 i d u hd hu)
 |agg cs vs hl _ h=>exact⟨by simpa [Value.cells,dV]using hl,λi c u hc hu=>h i c u hc (by simpa [Value.cells]using hu)⟩
 |bx id off b fz cs hH hb=>exact one _ _ h0 rfl rfl
 |bxdead id off v hH h1=>exact one _ _ h0 rfl h1
 |rp id k j b fz size xs hH hb=>exact one _ _ h0 rfl rfl
 |rpdead id k j v hH h1=>exact one _ _ h0 rfl h1
 |ow=>exact one _ _ h0 rfl rfl
 |ow0=>exact one _ _ h0 rfl rfl
 |owdead id k n v hH h1=>exact one _ _ h0 rfl h1
 |oc=>exact one _ _ h0 rfl rfl
 |ocdead id k n c v hH h1=>exact one _ _ h0 rfl h1
 |fn=>exact one _ _ h0 rfl rfl
 |bm=>exact one _ _ h0 rfl rfl
 |tup=>simp[iU]at hs
 |when=>simp[iU]at hs
 |nl=>exact one _ _ h0 rfl rfl
 |mp=>exact one _ _ h0 rfl rfl
 |mpdead id v hH h1=>exact one _ _ h0 rfl h1
 |it=>simp[iU]at hs
 |itdead=>simp[iU]at hs
 |junk=>simp[iU]at hs
theorem R.cells1{x:LV}{v:Value}(hs:iU H x=true)(h:R w E β H x v):∀u∈v.cells.toList,u.oneCell'=true:=by
 have one:∀v:Value,v.oneCell'=true->∀u∈v.cells.toList,u.oneCell'=true:=by
  intro v ho u hu;rw[wR ho]at hu;simp at hu;subst hu;exact ho
 cases h with
 |d x v h=>exact h.cells1
 |agg cs vs hl h1 h=>intro u hu;exact h1 u (by simpa [Value.cells]using hu)
 |bx id off b fz cs hH hb=>exact one _ rfl
 |bxdead id off v hH h1=>exact one _ h1
 |rp id k j b fz size xs hH hb=>exact one _ rfl
 |rpdead id k j v hH h1=>exact one _ h1
 |ow=>exact one _ rfl
 |ow0=>exact one _ rfl
 |owdead id k n v hH h1=>exact one _ h1
 |oc=>exact one _ rfl
 |ocdead id k n c v hH h1=>exact one _ h1
 |fn=>exact one _ rfl
 |bm=>exact one _ rfl
 |tup=>simp[iU]at hs
 |when=>simp[iU]at hs
 |nl=>exact one _ rfl
 |mp=>exact one _ rfl
 |mpdead id v hH h1=>exact one _ h1
 |it=>simp[iU]at hs
 |itdead=>simp[iU]at hs
 |junk=>simp[iU]at hs
theorem rW(s:ByteArray):(⟨s.data.toList.toArray⟩:ByteArray)=s:=by cases s;simp
theorem TC(v:Value):R w E β H (mE v) v:=by
 unfold mE;split
 ·exact .d _ _ (.bool _)
 ·exact .d _ _ (.int _ _)
 ·rename_i s;have:=RD.str (w:=w) (E:=E) s.data.toList;rw[rW]at this;exact .d _ _ this
 ·exact .nl _
 ·exact .junk _
 ·exact .junk _
 ·rename_i h1 h2 h3 h4 h5 h6;refine .d _ _ (.val _ ?_);cases v<;>first|rfl|exact absurd rfl (h5 _)|exact absurd rfl (h6 _)
theorem R.const(v:Value):R w E β H (oO v) v:=by
 unfold oO;split
 ·exact .d _ _ (.bool _)
 ·exact .d _ _ (.int _ _)
 ·rename_i s;have:=RD.str (w:=w) (E:=E) s.data.toList;rw[rW]at this;exact .d _ _ this
 ·exact .nl _
 ·rename_i vs;split
  ·rename_i h;have e:vs=vs.toList.toArray:=aM;rw[e];refine .agg _ _ aM (λu hu=>List.all_eq_true.1 h u (by simpa using hu)) λi c u hc hu=>?_;rw[List.getElem?_map]at hc;have hu':vs.toList[i]? =some u:=by simpa using hu
   cases q:vs.toList[i]? with
   |none=>rw[q]at hu';cases hu'
   |some u'=>
    rw[q]at hu';cases hu';simp only[List.toList_toArray]at hc;rw[q]at hc;cases hc;exact TC _
  ·exact .junk _
 ·exact .junk _
 ·rename_i h1 h2 h3 h4 h5 h6;refine .d _ _ (.val _ ?_);cases v<;>first|rfl|exact absurd rfl (h5 _)|exact absurd rfl (h6 _)
theorem R.fn0(f:FuncId):R w E β H (.d (.fn f [])) (.func (.func f) #[] #[]):=.d _ _ (.fn f [] [] rfl aM)
theorem BJ{α:Type}:∀(l:List (Option α)) (xs:List α),cM l=some xs->l=xs.map some
 |[],xs,h=>by simp[cM]at h;subst h;rfl
 |none::_,_,h=>by simp[cM]at h
 |some x::r,xs,h=>by
  simp only[cM,Option.map_eq_some_iff]at h;obtain⟨ys,h1,rfl⟩:=h;rw[BJ r ys h1];rfl
theorem kZ{α γ:Type}{f:α->Option γ}{l:List α}{xs:List γ}(h:cM (l.map f)=some xs):xs.length=l.length/\∀(i:Nat) (a:α) (x:γ),l[i]? =some a->xs[i]? =some x->f a=some x:=by
 have h1:=BJ _ _ h;refine⟨by have:=congrArg List.length h1;simpa using this.symm,λi a x ha hx=>?_⟩;have:=congrArg (λl=>l[i]?) h1;simpa [ha,hx]using this
theorem Jo{size:Nat}{xs:List DV}(hs:∀x∈xs,(aQ x).length=size)(k:Nat)(j:Nat)(hj:j<size):
 (bS xs)[k*size+j]? =(xs[k]?).bind λx=>(aQ x)[j]? :=by
 induction xs generalizing k with
 |nil=>simp[bS]
 |cons x t ih=>
  have hx:=hs x aM;have ht:∀y∈t,(aQ y).length=size:=λy hy=>hs y (by simp[hy]);simp only[bS,List.flatMap_cons];cases k with
  |zero=>
   rw[List.getElem?_append_left aE];simp
  |succ k=>
   rw[List.getElem?_append_right (by rw[hx];have:size<=(k+1)*size:=Nat.le_mul_of_pos_left _ aE;omega)];have e:(k+1)*size+j-(aQ x).length=k*size+j:=by rw[hx,Nat.add_mul];omega
   rw[e];simpa [bS]using ih ht k
theorem flat_len{size:Nat}{xs:List DV}(hs:∀x∈xs,(aQ x).length=size):(bS xs).length=xs.length*size:=by
 induction xs with
 |nil=>simp[bS]
 |cons x t ih=>
  have:=ih λy hy=>hs y (by simp[hy]);simp only[bS,List.flatMap_cons,List.length_append,List.length_cons]at*;rw[this,hs x aM,Nat.add_mul];omega
theorem wS{size:Nat}{xs:List DV}(hs:∀x∈xs,(aQ x).length=size)(k:Nat):bS (xs.drop k)=(bS xs).drop (k*size):=by
 induction xs generalizing k with
 |nil=>simp[bS]
 |cons x t ih=>
  have hx:=hs x aM;cases k with
  |zero=>simp
  |succ k=>
   simp only[List.drop_succ_cons];rw[ih (λy hy=>hs y (by simp[hy]))];simp only[bS,List.flatMap_cons];rw[Nat.add_mul,Nat.one_mul,Nat.add_comm,<-List.drop_drop,<-hx,List.drop_left'];rfl
theorem jS{size:Nat}{xs:List DV}(hs:∀x∈xs,(aQ x).length=size)(k:Nat):bS (xs.take k)=(bS xs).take (k*size):=by
 induction xs generalizing k with
 |nil=>simp[bS]
 |cons x t ih=>
  have hx:=hs x aM;cases k with
  |zero=>simp[bS]
  |succ k=>
   simp only[List.take_succ_cons,bS,List.flatMap_cons];have:=ih (λy hy=>hs y (by simp[hy])) k;simp only[bS]at this;rw[this,List.take_append,hx,Nat.add_mul,Nat.one_mul,Nat.add_sub_cancel,List.take_of_length_le (l:=aQ x) (by rw[hx];exact Nat.le_add_left _ _)]
theorem qS(xs ys:List DV):bS (xs++ys)=bS xs++bS ys:=by simp[bS]
theorem Dl{size:Nat}{xs:List DV}(hs:∀x∈xs,(aQ x).length=size)(k m:Nat):∀x∈(xs.drop k).take m,(aQ x).length=size:=
 λx hx=>hs x (List.mem_of_mem_drop (List.mem_of_mem_take hx))
theorem Jp{E':Nat->Prop}(hobj:∀id,dO w E β H id)(hD:∀x v,RD w E x v->RD w E' x v){id k m c b size:Nat}{fz:Bool}{xs:List DV}(hH:H id=.row fz size xs)(hb:β id=some b)(hkn:k+m<=xs.length)(hn:m<=c)(hc:c<=maxLen)
 (ht:∀b,β id=some b->¬E' b)(hm:0<m):RD w E' (.sl ((xs.drop k).take m)) (.slice (some ⟨b,k*size,none⟩) m c):=by
 have ho:=hobj id;simp only[dO,hH]at ho;obtain⟨hsz,hall,ho⟩:=ho;rcases ho with⟨hn',_⟩|⟨b',e',cur',hb',hblk',hlen',hcs⟩
 ·rw[hn']at hb;cases hb
 ·rw[hb']at hb;injection hb with hb;subst hb
  have hin:((xs.drop k).take m).length=m:=kG;have hne:(xs.drop k).take m≠[]:=by intro hh;rw[hh]at hin;simp at hin;omega
  have hall':=Dl hall k m;have hkm:k*size+m*size<=xs.length*size:=by rw[<-Nat.add_mul];exact Nat.mul_le_mul_right _ hkn
  have hcell:∀(j:Nat) (u:Value),((cur'.toList.drop (k*size)).take (m*size))[j]? =some u->w.cell? ⟨b',k*size+j,none⟩=some u:=by
   intro j u hu;rw[cell_of_row w b' _ cur' e' (0,0) hblk'];rw[List.getElem?_take]at hu;split at hu
   ·simpa using hu
   ·cases hu
  have hone:∀u∈(cur'.toList.drop (k*size)).take (m*size),u.oneCell'=true:=by
   intro u hu;obtain⟨i,hi,rfl⟩:=List.getElem_of_mem hu;simp only[List.getElem_take,List.getElem_drop];simp at hi;have hfl:=flat_len hall;exact(hcs (k*size+i) ((bS xs)[k*size+i]'aE) _ (List.getElem?_eq_getElem _) aM).1
  have hfin:=RD.sl (w:=w) (E:=E') ((xs.drop k).take m) b' (k*size) c size ((cur'.toList.drop (k*size)).take (m*size)) hne (ht b' hb') hall' aE hc
   (by rw[hin];simp;omega) hone (Array.getElem?_eq_some_iff.1 hblk').1 hcell ?_
  ·rw[hin]at hfin;exact hfin
  ·intro i d v hd hv;rw[jS (λx hx=>hall x (List.mem_of_mem_drop hx)),wS hall,List.getElem?_take]at hd;rw[List.getElem?_take]at hv;split at hd
   ·rename_i hi;rw[if_pos hi]at hv;simp only[List.getElem?_drop]at hd hv;exact hD _ _ (hcs _ d v hd (by simpa using hv)).2
   ·cases hd
theorem nV{E':Nat->Prop}(hobj:∀id,dO w E β H id)(hD:∀x v,RD w E x v->RD w E' x v):
 ∀(n:Nat) (l:LV) (x:DV) (v:Value),close H n l=some x->(∀id∈bR H n l,∀b,β id=some b->¬E' b)->R w E β H l v->RD w E' x v:=by
 intro n;induction n with
 |zero=>intro l x v h;simp[close]at h
 |succ n ih=>
  intro l x v h ht hr;have list:∀(cs:List LV) (xs:List DV) (vs:List Value),cM (cs.map (close H n))=some xs->(∀id∈cs.flatMap (bR H n),∀b,β id=some b->¬E' b)->vs.length=cs.length->
   (∀(i:Nat) (c:LV) (v:Value),cs[i]? =some c->vs[i]? =some v->R w E β H c v)->vs.length=xs.length/\∀(i:Nat) (c:DV) (v:Value),xs[i]? =some c->vs[i]? =some v->RD w E' c v:=by
   intro cs xs vs h ht hl hp;obtain⟨h1,h2⟩:=kZ h;refine⟨aE,λi c v hc hv=>?_⟩;have hi:i<cs.length:=by have:=(List.getElem?_eq_some_iff.1 hc).1;omega
   have hci:=List.getElem?_eq_getElem hi;exact ih _ _ _ (h2 i _ c hci hc) (λid hid b hb=>ht id (List.mem_flatMap.2 ⟨_,List.getElem_mem hi,hid⟩) b hb) (hp i _ v hci hv)
  cases l with
  |d y=>simp only[close,Option.some.injEq]at h;subst h;cases hr with|d _ _ h=>exact hD _ _ h
  |agg cs=>
   simp only[close,Option.map_eq_some_iff]at h;obtain⟨xs,h,rfl⟩:=h;cases hr with
   |agg _ vs hl ho hp=>
    obtain⟨h1,h2⟩:=list cs xs vs h (by simpa [bR]using ht) hl hp;exact .agg xs vs h1 ho h2
  |ow id k m=>
   simp only[close]at h;cases hH:H id with
   |row fz size xs=>
    simp only[hH,Option.some.injEq]at h;subst h;cases hr with
    |ow _ _ _ b c fz' size' xs' cur e hH' hb hkn hn hc hblk hroom=>
     rw[hH]at hH';injection hH' with _ e1 e2
     subst e1;subst e2;rcases Nat.eq_zero_or_pos m with hm|hm
     ·subst hm;simpa using RD.sl0 (w:=w) (E:=E') _ c hc
     ·exact Jp hobj hD hH hb hkn hn hc (λb hb=>ht id (by simp[bR]) b hb) hm
    |ow0 _ _ a fz' size' xs' hH'=>simpa using RD.sl0 (w:=w) (E:=E') a 0 (by unfold maxLen;omega)
    |owdead _ _ _ _ hH'=>rw[hH]at hH';cases hH'
   |_=>simp[hH]at h
  |oc id k m c=>
   simp only[close]at h;cases hH:H id with
   |row fz size xs=>
    simp only[hH,Option.some.injEq]at h;subst h;cases hr with
    |oc _ _ _ _ a fz' size' xs' hH' hn hkc hc ha=>
     rw[hH]at hH';injection hH' with _ e1 e2
     subst e1;subst e2;rcases Nat.eq_zero_or_pos m with hm|hm
     ·subst hm;simpa using RD.sl0 (w:=w) (E:=E') a c hc
     ·rcases ha with ha|⟨b,hb,rfl⟩
      ·omega
      ·exact Jp hobj hD hH hb aE hn hc (λb hb=>ht id (by simp[bR]) b hb) hm
    |ocdead _ _ _ _ _ hH'=>rw[hH]at hH';cases hH'
   |_=>simp[hH]at h
  |bx id off=>
   simp only[close]at h;cases hH:H id with
   |box fz cs=>
    simp only[hH,Option.map_eq_some_iff]at h;obtain⟨xs,h,rfl⟩:=h;have ho:=hobj id;simp only[dO,hH]at ho;obtain⟨b,e,us,hb,hblk,hlen,ho1,hp⟩:=ho;simp only[bR,hH,List.mem_cons]at ht;cases hr with
    |bx _ _ b' _ _ _ hb'=>
     rw[hb]at hb';injection hb' with hb';subst hb'
     obtain⟨h1,h2⟩:=list (cs.drop off) xs (us.drop off) h (λid' hid b hb=>ht id' (.inr hid) b hb) kG (λi c v hc hv=>by
      simp only[List.getElem?_drop]at hc hv;exact hp _ c v hc hv)
     refine .ro xs b off (us.drop off) (ht id (.inl rfl) b hb) h1 (λu hu=>ho1 u (List.mem_of_mem_drop hu)) (Array.getElem?_eq_some_iff.1 hblk).1 (λj u hu=>?_) h2;rw[cell_of_row w b _ us.toArray e (0,0) hblk];simpa using hu
    |bxdead _ _ _ hH'=>rw[hH]at hH';cases hH'
   |_=>simp[hH]at h
  |fn f cs=>
   simp only[close,Option.map_eq_some_iff]at h;obtain⟨xs,h,rfl⟩:=h;cases hr with
   |fn _ _ vs hl hp=>
    obtain⟨h1,h2⟩:=list cs xs vs h (by simpa [bR]using ht) hl hp;exact .fn f xs vs h1 h2
  |bm f cs=>
   simp only[close,Option.map_eq_some_iff]at h;obtain⟨xs,h,rfl⟩:=h;cases hr with
   |bm _ _ vs hl hp=>
    obtain⟨h1,h2⟩:=list cs xs vs h (by simpa [bR]using ht) hl hp;exact .bm f xs vs h1 h2
  |nl=>simp only[close,Option.some.injEq]at h;subst h;cases hr with|nl a=>exact .sl0 a 0 (by unfold maxLen;omega)
  |mp id=>
   simp only[close]at h;cases hH:H id with
   |map fz ks vs=>
    simp only[hH,Option.some.injEq]at h;subst h;have ho:=hobj id;simp only[dO,hH]at ho;obtain⟨b,arr,clock,hb,hblk,hk,hl,hborn,h1,h2⟩:=ho;cases hr with
    |mp _ b' _ _ _ _ hb'=>
     rw[hb]at hb';injection hb' with hb';subst hb'
     exact .mp ks vs b clock arr (ht id (by simp[bR]) b hb) (Array.getElem?_eq_some_iff.1 hblk).1 hblk hk hl hborn (λi d e hd he=>hD _ _ (h1 i d e hd he)) (λi d e hd he=>hD _ _ (h2 i d e hd he))
    |mpdead _ _ hH'=>rw[hH]at hH';cases hH'
   |_=>simp[hH]at h
  |rp|it|tup|when|junk=>simp[close]at h
end
end
section
open Go.RowKit
structure eT(X:Nat->Prop)(H:Nat->bB)(β:Nat->Option Nat)(w:World)(H':Nat->bB)(β':Nat->Option Nat)(w':World):Prop where
 size:w.heap.size<=w'.heap.size
 blk:∀k,k<w.heap.size->¬Ex X β H k->w'.heap[k]? =w.heap[k]?
 sub:∀k,k<w.heap.size->Ex X β' H' k->Ex X β H k
 pass:∀id,bQ w β H w' β' H' id
section
variable{w0:cX} {X:Nat->Prop} {H H' H'':Nat->bB} {β β' β'':Nat->Option Nat} {w w' w'':World}
theorem mC.mem{N:Nat}{env:Nat->LV}{a:Act}(h:mC N w0 X env H β a w):dR w0 X H β w:=⟨h.ext,h.xold,h.fresh,h.inj,h.obj,h.pin⟩
theorem eT.D(g:eT X H β w H' β' w'){x:DV}{v:Value}(h:RD w (Ex X β H) x v):RD w' (Ex X β' H') x v:=h.step g.blk g.size g.sub
theorem eT.R(g:eT X H β w H' β' w'){x:LV}{v:Value}(h:R w (Ex X β H) β H x v):R w' (Ex X β' H') β' H' x v:=h.step (λ_ _=>g.D) g.pass
theorem bQ.refl(id:Nat):bQ w β H w β H id:=by
 unfold bQ;cases h:H id with
 |absent=>trivial
 |dead=>rfl
 |box fz cs=>exact .inr ⟨⟨fz,cs,rfl⟩,rfl⟩
 |row fz s xs=>exact .inr ⟨⟨fz,xs,rfl,Nat.le_refl _⟩,rfl,λb cur e _ hb=>⟨cur,e,hb,rfl⟩⟩
 |map fz ks vs=>exact .inr ⟨⟨fz,ks,vs,rfl⟩,rfl⟩
 |iter fz ks vs=>exact .inr ⟨⟨fz,ks,vs,rfl⟩,rfl⟩
 |know x v=>trivial
theorem bQ.trans{id:Nat}(h:bQ w β H w' β' H' id)(k:bQ w' β' H' w'' β'' H'' id):bQ w β H w'' β'' H'' id:=by
 unfold bQ at*;cases e:H id with
 |absent=>trivial
 |dead=>simp only[e]at h;simpa only[h]using k
 |box fz cs=>
  simp only[e]at h;rcases h with h|⟨⟨fz',cs',h⟩,hb⟩
  ·simp only[h]at k;exact .inl k
  ·simp only[h]at k;rcases k with k|⟨k,kb⟩
   ·exact .inl k
   ·exact .inr ⟨k,kb.trans hb⟩
 |row fz s xs=>
  simp only[e]at h;rcases h with h|⟨⟨fz',xs',h,hl⟩,hb,hh⟩
  ·simp only[h]at k;exact .inl k
  ·simp only[h]at k;rcases k with k|⟨⟨fz2,xs2,k,kl⟩,kb,kh⟩
   ·exact .inl k
   ·refine .inr ⟨⟨fz2,xs2,k,Nat.le_trans hl kl⟩,kb.trans hb,λb cur t hbb hblk=>?_⟩;obtain⟨cur',t',h1,h2⟩:=hh b cur t hbb hblk;obtain⟨cur2,t2,h3,h4⟩:=kh b cur' t' (hb.trans hbb) h1;exact⟨cur2,t2,h3,h4.trans h2⟩
 |map fz ks vs=>
  simp only[e]at h;rcases h with h|⟨⟨fz',ks',vs',h⟩,hb⟩
  ·simp only[h]at k;exact .inl k
  ·simp only[h]at k;rcases k with k|⟨k,kb⟩
   ·exact .inl k
   ·exact .inr ⟨k,kb.trans hb⟩
 |iter fz ks vs=>
  simp only[e]at h;rcases h with h|⟨⟨fz',ks',vs',h⟩,hb⟩
  ·simp only[h]at k;exact .inl k
  ·simp only[h]at k;rcases k with k|⟨k,kb⟩
   ·exact .inl k
   ·exact .inr ⟨k,kb.trans hb⟩
 |know x v=>trivial
theorem eT.refl:eT X H β w H β w:=⟨Nat.le_refl _,λ_ _ _=>rfl,λ_ _ h=>h,λid=>bQ.refl id⟩
theorem eT.trans(g:eT X H β w H' β' w')(k:eT X H' β' w' H'' β'' w''):eT X H β w H'' β'' w'':=
 ⟨Nat.le_trans g.size k.size,λb hb he=>(k.blk b (Nat.lt_of_lt_of_le hb g.size) (λh=>he (g.sub b hb h))).trans (g.blk b hb he),
   λb hb he=>g.sub b hb (k.sub b (Nat.lt_of_lt_of_le hb g.size) he),λid=>(g.pass id).trans (k.pass id)⟩
theorem dO.step{E E':Nat->Prop}{id:Nat}(hsz:w.heap.size<=w'.heap.size)(hEb:∀k,k<w.heap.size->¬E k->w'.heap[k]? =w.heap[k]?/\¬E' k)(hD:∀x v,RD w E x v->RD w' E' x v)(hR:∀l v,R w E β H l v->R w' E' β' H' l v)(hH:H' id=H id)
 (hb:(H id).live=true->β' id=β id)(hblk:∀b,(H id).live=true->β id=some b->w'.heap[b]? =w.heap[b]?)(h:dO w E β H id):dO w' E' β' H' id:=by
 unfold dO at*;rw[hH];cases e:H id with
 |absent=>trivial
 |dead=>trivial
 |box fz cs=>
  simp only[e,bB.live,forall_const]at h hb hblk|-;obtain⟨b,t,us,h1,h2,h3,ho,h4⟩:=h;exact⟨b,t,us,(hb).trans h1,(hblk b h1).trans h2,h3,ho,λi c v hc hv=>hR _ _ (h4 i c v hc hv)⟩
 |row fz s xs=>
  simp only[e,bB.live,forall_const]at h hb hblk|-;obtain⟨h0,h1,h2⟩:=h;refine⟨h0,h1,?_⟩;rcases h2 with⟨h2,h3⟩|⟨b,t,cur,h2,h3,h4,h5⟩
  ·exact .inl ⟨hb.trans h2,h3⟩
  ·exact .inr ⟨b,t,cur,hb.trans h2,(hblk b h2).trans h3,h4,λi d v hd hv=>⟨(h5 i d v hd hv).1,hD _ _ (h5 i d v hd hv).2⟩⟩
 |map fz ks vs=>
  simp only[e,bB.live,forall_const]at h hb hblk|-;obtain⟨b,arr,clock,h1,h2,h3,h4,h5,h6,h7⟩:=h;exact⟨b,arr,clock,hb.trans h1,(hblk b h1).trans h2,h3,h4,h5,λi d e hd he=>hD _ _ (h6 i d e hd he),λi d e hd he=>hD _ _ (h7 i d e hd he)⟩
 |iter fz ks vs=>
  simp only[e,bB.live,forall_const]at h hb hblk|-;obtain⟨b,bm,arr,clock,seen,last,h1,h2,h3,h4,h5,h6,h7,h8,h9,h10,h11⟩:=h;exact⟨b,bm,arr,clock,seen,last,hb.trans h1,(hblk b h1).trans h2,(hEb bm h4 h3).2,Nat.lt_of_lt_of_le h4 hsz,(hEb bm h4 h3).1.trans h5,h6,h7,h8,h9,λi d e hd he=>hD _ _ (h10 i d e hd he),λi d e hd he=>hD _ _ (h11 i d e hd he)⟩
 |know x v=>
  simp only[e]at h|-;exact hR _ _ h
theorem eT.out(g:eT X H β w H' β' w'):∀k,k<w.heap.size->¬Ex X β H k->w'.heap[k]? =w.heap[k]?/\¬Ex X β' H' k:=λk hk he=>⟨g.blk k hk he,λh=>he (g.sub k hk h)⟩
theorem eT.marks(g:eT X H β w H' β' w'){B:cX}{l:List Deferred}(h:FS B w (Ex X β H) l):FS B w' (Ex X β' H') l:=
 let⟨Ds,h0,h1,h2,h3⟩:=h
 ⟨Ds,h0,h1,h2,λD hD=>let⟨q0,q1,q2⟩:=h3 D hD;let r:=g.out D (Array.getElem?_eq_some_iff.1 q2).1 q1;⟨q0,r.2,r.1.trans q2⟩⟩
theorem BK(o:bB):(frozen o).live=o.live:=by cases o<;>rfl
theorem Dm(o:bB):(frozen o).mut=false:=by cases o<;>rfl
theorem fF(H:Nat->bB)(ids:List Nat)(id:Nat):bW H (bI H ids) id=if id∈ids then frozen (H id)else H id:=by
 induction ids with
 |nil=>simp[bI,bW]
 |cons i t ih=>
  simp only[bI,List.map_cons,bW]at*;by_cases h:id=i
  ·simp[h]
  ·simp only[h,if_false,List.mem_cons,false_or];exact ih
theorem dR.freeze(m:dR w0 X H β w)(ids:List Nat):dR w0 X (bW H (bI H ids)) β w/\eT X H β w (bW H (bI H ids)) β w:=by
 have hid:=fF H ids;have hlive:∀id,(bW H (bI H ids) id).live=(H id).live:=λid=>by rw[hid];split<;>simp[BK]
 have hmut:∀id,(bW H (bI H ids) id).mut=true->(H id).mut=true:=λid h=>by
  rw[hid]at h;split at h
  ·rw[Dm]at h;cases h
  ·exact h
 have g:eT X H β w (bW H (bI H ids)) β w:=by
  refine⟨Nat.le_refl _,λ_ _ _=>rfl,λk _ hk=>?_,λid=>?_⟩
  ·rcases hk with hk|⟨id,h1,h2⟩
   ·exact .inl hk
   ·exact .inr ⟨id,hmut id h1,h2⟩
  ·have hp:=bQ.refl (w:=w) (β:=β) (H:=H) id;by_cases hin:id∈ids
   ·unfold bQ at*;rw[hid,if_pos hin];cases e:H id with
    |absent=>trivial
    |dead=>rfl
    |box fz cs=>exact .inr ⟨⟨true,cs,rfl⟩,rfl⟩
    |row fz s xs=>exact .inr ⟨⟨true,xs,rfl,Nat.le_refl _⟩,rfl,λb cur e _ hb=>⟨cur,e,hb,rfl⟩⟩
    |map fz ks vs=>exact .inr ⟨⟨true,ks,vs,rfl⟩,rfl⟩
    |iter fz ks vs=>exact .inr ⟨⟨true,ks,vs,rfl⟩,rfl⟩
    |know x v=>trivial
   ·unfold bQ at*;rw[hid,if_neg hin];exact hp
 refine⟨⟨m.ext,m.xold,λid b hl hb=>(m.fresh id b (by rw[<-hlive];exact hl) hb).imp (Or.imp (λh=>h) λh=>⟨h.1,λhm=>h.2 (hmut _ hm)⟩) (λh=>h),λi j b hi hj=>m.inj i j b (by rw[<-hlive];exact hi) (by rw[<-hlive];exact hj),λid=>?_,λid hid=>(m.pin id hid).trans (g.pass id)⟩,g⟩;by_cases hin:id∈ids
 ·have ho:=m.obj id;unfold dO at*;rw[hid,if_pos hin];cases e:H id with
  |absent=>trivial
  |dead=>trivial
  |box fz cs=>
   simp only[e,frozen]at ho|-;obtain⟨b,t,us,h1,h2,h3,h0,h4⟩:=ho;exact⟨b,t,us,h1,h2,h3,h0,λi c v hc hv=>g.R (h4 i c v hc hv)⟩
  |row fz s xs=>
   simp only[e,frozen]at ho|-;obtain⟨h0,h1,h2⟩:=ho;refine⟨h0,h1,?_⟩;rcases h2 with h2|⟨b,t,cur,h2,h3,h4,h5⟩
   ·exact .inl h2
   ·exact .inr ⟨b,t,cur,h2,h3,h4,λi d v hd hv=>⟨(h5 i d v hd hv).1,g.D (h5 i d v hd hv).2⟩⟩
  |map fz ks vs=>
   simp only[e,frozen]at ho|-;obtain⟨b,arr,clock,h1,h2,h3,h4,h5,h6,h7⟩:=ho;exact⟨b,arr,clock,h1,h2,h3,h4,h5,λi d e hd he=>g.D (h6 i d e hd he),λi d e hd he=>g.D (h7 i d e hd he)⟩
  |iter fz ks vs=>
   simp only[e,frozen]at ho|-;obtain⟨b,bm,arr,clock,seen,last,h1,h2,h3,h4,h5,h6,h7,h8,h9,h10,h11⟩:=ho;exact⟨b,bm,arr,clock,seen,last,h1,h2,(g.out bm h4 h3).2,h4,h5,h6,h7,h8,h9,λi d e hd he=>g.D (h10 i d e hd he),λi d e hd he=>g.D (h11 i d e hd he)⟩
  |know x v=>
   simp only[e,frozen]at ho|-;exact g.R ho
 ·exact(m.obj id).step g.size g.out (λ_ _=>g.D) (λ_ _=>g.R) (by rw[hid,if_neg hin]) (λ_=>rfl) (λ_ _ _=>rfl)
theorem Ex.lt(m:dR w0 X H β w){k:Nat}(h:Ex X β H k):k<w.heap.size:=by
 rcases h with h|⟨id,h1,h2⟩
 ·exact Nat.lt_of_lt_of_le (m.xold.1 k h).1 m.ext.size
 ·exact(m.fresh id k (bK h1) h2).2
theorem dR.globL(m:dR w0 X H β w):yI w λk=>X k\/∃id,(H id).live=true/\β id=some k:=
 m.xold.2.step (λk hk hn=>m.ext.block k hk λ⟨id,h1,h2,h3⟩=>hn (.inr ⟨id,h1,bK h2,h3⟩)) m.ext.size λk hk he=>by
  rcases he with h|⟨id,h1,h2⟩
  ·exact .inl h
  ·rcases(m.fresh id k h1 h2).1 with h|h
   ·omega
   ·exact .inr h.1
theorem dR.glob(m:dR w0 X H β w):yI w (Ex X β H):=m.globL.anti λk h=>by
 rcases h with h|⟨id,h1,h2⟩
 ·exact .inl h
 ·exact .inr ⟨id,bK h1,h2⟩
theorem dR.grow(m:dR w0 X H β w)(hb:zN w.heap.size w w'):dR w0 X H β w'/\eT X H β w H β w':=by
 have hg:eT X H β w H β w':=by
  refine⟨hb.size,λk hk _=>hb.block k hk,λ_ _ h=>h,λid=>?_⟩;have hp:=bQ.refl (w:=w) (β:=β) (H:=H) id;have ho:=m.obj id;unfold bQ at*;cases e:H id with
  |absent=>trivial
  |dead=>rfl
  |box fz cs=>simpa only[e]using hp
  |row fz s xs=>
   refine .inr ⟨⟨fz,xs,rfl,Nat.le_refl _⟩,rfl,λb cur t _ hbb=>⟨cur,t,?_,rfl⟩⟩;rw[hb.block b (Array.getElem?_eq_some_iff.1 hbb).1];exact hbb
  |map fz ks vs=>simpa only[e]using hp
  |iter fz ks vs=>simpa only[e]using hp
  |know x v=>trivial
 refine⟨⟨m.ext.of_below hb,m.xold,λid b hl hbb=>?_,m.inj,λid=>?_,λid hid=>(m.pin id hid).trans (hg.pass id)⟩,hg⟩
 ·have:=m.fresh id b hl hbb;exact⟨this.1,Nat.lt_of_lt_of_le this.2 hb.size⟩
 ·exact(m.obj id).step hg.size hg.out (λ_ _=>hg.D) (λ_ _=>hg.R) rfl (λ_=>rfl) λb hl hbb=>hb.block b (m.fresh id b hl hbb).2
theorem dR.newObj(m:dR w0 X H β w)(hb:zN w.heap.size w w'){d:Nat}(hd:H d=.absent){o:bB}(B:Option Nat)
 (hB:∀b,B=some b->w.heap.size<=b/\b<w'.heap.size)
 (ho:(∀x v,RD w (Ex X β H) x v->RD w' (Ex X (cE β d B) (cE H d o)) x v)->(∀l v,R w (Ex X β H) β H l v->R w' (Ex X (cE β d B) (cE H d o)) (cE β d B) (cE H d o) l v)->
   dO w' (Ex X (cE β d B) (cE H d o)) (cE β d B) (cE H d o) d):
 dR w0 X (cE H d o) (cE β d B) w'/\eT X H β w (cE H d o) (cE β d B) w':=by
 have hnd:∀id,(H id).live=true->id≠d:=λid hl e=>by rw[e,hd]at hl;cases hl
 have hg:eT X H β w (cE H d o) (cE β d B) w':=by
  refine⟨hb.size,λk hk _=>hb.block k hk,λk hk he=>?_,λid=>?_⟩
  ·rcases he with he|⟨id,h1,h2⟩
   ·exact .inl he
   ·by_cases hi:id=d
    ·subst hi;rw[aX]at h2;have:=(hB k h2).1;omega
    ·rw[cG _ _ hi]at h1 h2;exact .inr ⟨id,h1,h2⟩
  ·by_cases hi:id=d
   ·subst hi;unfold bQ;rw[hd];trivial
   ·have hp:=(m.grow hb).2.pass id;unfold bQ at*;rw[cG _ _ hi,cG _ _ hi];exact hp
 refine⟨⟨m.ext.of_below hb,m.xold,λid b hl hbb=>?_,λi j b hi hj h1 h2=>?_,λid=>?_,λid hid=>(m.pin id hid).trans (hg.pass id)⟩,hg⟩
 ·by_cases hi:id=d
  ·subst hi;rw[aX]at hbb;have h1:=hB b hbb;exact⟨.inl (Nat.le_trans m.ext.size h1.1),h1.2⟩
  ·rw[cG _ _ hi]at hl hbb|-;have:=m.fresh id b hl hbb;exact⟨this.1,Nat.lt_of_lt_of_le this.2 hb.size⟩
 ·by_cases ei:i=d<;>by_cases ej:j=d
  ·rw[ei,ej]
  ·subst ei;rw[aX]at h1;rw[cG _ _ ej]at hj h2;have:=hB b h1;have:=(m.fresh j b hj h2).2;omega
  ·subst ej;rw[aX]at h2;rw[cG _ _ ei]at hi h1;have:=hB b h2;have:=(m.fresh i b hi h1).2;omega
  ·rw[cG _ _ ei]at hi h1;rw[cG _ _ ej]at hj h2;exact m.inj i j b hi hj h1 h2
 ·by_cases hi:id=d
  ·subst hi;exact ho (λ_ _=>hg.D) (λ_ _=>hg.R)
  ·exact(m.obj id).step hg.size hg.out (λ_ _=>hg.D) (λ_ _=>hg.R) (cG _ _ hi) (λ_=>cG _ _ hi) λb hl hbb=>hb.block b (m.fresh id b hl hbb).2
theorem dR.kill(m:dR w0 X H β w)(d:Nat)(hd:(H d).live=true):dR w0 X (cE H d .dead) β w/\eT X H β w (cE H d .dead) β w:=by
 have hg:eT X H β w (cE H d .dead) β w:=by
  refine⟨Nat.le_refl _,λ_ _ _=>rfl,λk _ he=>?_,λid=>?_⟩
  ·rcases he with he|⟨id,h1,h2⟩
   ·exact .inl he
   ·by_cases hi:id=d
    ·subst hi;rw[aX]at h1;cases h1
    ·rw[cG _ _ hi]at h1;exact .inr ⟨id,h1,h2⟩
  ·by_cases hi:id=d
   ·subst hi;unfold bQ;cases e:H id<;>simp_all[aX,bB.live]
   ·have hp:=bQ.refl (w:=w) (β:=β) (H:=H) id;unfold bQ at*;rw[cG _ _ hi];exact hp
 refine⟨⟨m.ext,m.xold,λid b hl hbb=>?_,λi j b hi hj=>?_,λid=>?_,λid hid=>(m.pin id hid).trans (hg.pass id)⟩,hg⟩
 ·by_cases hi:id=d
  ·subst hi;rw[aX]at hl;cases hl
  ·rw[cG _ _ hi]at hl|-;exact m.fresh id b hl hbb
 ·by_cases ei:i=d
  ·subst ei;rw[aX]at hi;cases hi
  ·by_cases ej:j=d
   ·subst ej;rw[aX]at hj;cases hj
   ·rw[cG _ _ ei]at hi;rw[cG _ _ ej]at hj;exact m.inj i j b hi hj
 ·by_cases hi:id=d
  ·subst hi;unfold dO;rw[aX];trivial
  ·exact(m.obj id).step hg.size hg.out (λ_ _=>hg.D) (λ_ _=>hg.R) (cG _ _ hi) (λ_=>rfl) λ_ _ _=>rfl
theorem dR.moveObj(m:dR w0 X H β w){id d:Nat}{s:Nat}{xs:List DV}(n:Nat)(hid:H id=.row false s xs)(hd:H d=.absent):
 dR w0 X (cE (cE H id .dead) d (.row false s (xs.take n))) (cE β d (β id)) w/\eT X H β w (cE (cE H id .dead) d (.row false s (xs.take n))) (cE β d (β id)) w:=by
 have hne:id≠d:=λe=>by rw[e,hd]at hid;cases hid
 have hg:eT X H β w (cE (cE H id .dead) d (.row false s (xs.take n))) (cE β d (β id)) w:=by
  refine⟨Nat.le_refl _,λ_ _ _=>rfl,λk _ he=>?_,λi=>?_⟩
  ·rcases he with he|⟨i,h1,h2⟩
   ·exact .inl he
   ·by_cases hi:i=d
    ·subst hi;rw[aX]at h2;exact .inr ⟨id,by rw[hid];rfl,h2⟩
    ·rw[cG _ _ hi]at h1 h2;by_cases hi2:i=id
     ·subst hi2;rw[aX]at h1;cases h1
     ·rw[cG _ _ hi2]at h1;exact .inr ⟨i,h1,h2⟩
  ·by_cases hi:i=d
   ·subst hi;unfold bQ;rw[hd];trivial
   ·by_cases hi2:i=id
    ·subst hi2;unfold bQ;rw[hid,cG _ _ hi,aX];exact .inl rfl
    ·have hp:=bQ.refl (w:=w) (β:=β) (H:=H) i;unfold bQ at*;rw[cG _ _ hi,cG _ _ hi2,cG _ _ hi];exact hp
 have live:∀i,i≠d->(cE (cE H id .dead) d (.row false s (xs.take n)) i).live=true->i≠id/\(H i).live=true:=λi hi hl=>by
  rw[cG _ _ hi]at hl;by_cases hi2:i=id
  ·subst hi2;rw[aX]at hl;cases hl
  ·rw[cG _ _ hi2]at hl;exact⟨hi2,hl⟩
 have hlid:(H id).live=true:=by rw[hid];rfl
 refine⟨⟨m.ext,m.xold,λi b hl hbb=>?_,λi j b hi hj h1 h2=>?_,λi=>?_,λid hid=>(m.pin id hid).trans (hg.pass id)⟩,hg⟩
 ·by_cases hi:i=d
  ·subst hi;rw[aX]at hbb;exact(m.fresh id b hlid hbb).imp (Or.imp (λh=>h) λh=>⟨h.1,λ_=>h.2 (by rw[hid];rfl)⟩) (λh=>h)
  ·rw[cG _ _ hi]at hbb;refine(m.fresh i b (live i hi hl).2 hbb).imp (Or.imp (λh=>h) λh=>⟨h.1,λhm=>h.2 ?_⟩) (λh=>h);rw[cG _ _ hi,cG _ _ (live i hi hl).1]at hm;exact hm
 ·by_cases ei:i=d<;>by_cases ej:j=d
  ·rw[ei,ej]
  ·subst ei;rw[aX]at h1;rw[cG _ _ ej]at h2;obtain⟨e1,e2⟩:=live j ej hj;exact absurd (m.inj id j b hlid e2 h1 h2).symm e1
  ·subst ej;rw[aX]at h2;rw[cG _ _ ei]at h1;obtain⟨e1,e2⟩:=live i ei hi;exact absurd (m.inj i id b e2 hlid h1 h2) e1
  ·rw[cG _ _ ei]at h1;rw[cG _ _ ej]at h2;exact m.inj i j b (live i ei hi).2 (live j ej hj).2 h1 h2
 ·by_cases hi:i=d
  ·subst hi;have ho:=m.obj id;unfold dO at*;rw[hid]at ho;rw[aX];simp only[]at ho|-;obtain⟨h0,h1,h2⟩:=ho;have hle:(xs.take n).length<=xs.length:=kG;refine⟨h0,λx hx=>h1 x (List.mem_of_mem_take hx),?_⟩;rcases h2 with⟨h2,h3⟩|⟨b,t,cur,h2,h3,h4,h5⟩
   ·exact .inl ⟨by rw[aX];exact h2,by simp[h3]⟩
   ·refine .inr ⟨b,t,cur,by rw[aX];exact h2,h3,Nat.le_trans (Nat.mul_le_mul_right _ hle) h4,λk dd v hdd hv=>?_⟩;rw[jS h1,List.getElem?_take]at hdd;split at hdd
    ·exact⟨(h5 k dd v hdd hv).1,hg.D (h5 k dd v hdd hv).2⟩
    ·cases hdd
  ·by_cases hi2:i=id
   ·subst hi2;unfold dO;rw[cG _ _ hi,aX];trivial
   ·exact(m.obj i).step hg.size hg.out (λ_ _=>hg.D) (λ_ _=>hg.R) (by rw[cG _ _ hi,cG _ _ hi2]) (λ_=>cG _ _ hi) λ_ _ _=>rfl
theorem dR.rewriteH{H0:Nat->bB}{β0:Nat->Option Nat}{w00:World}(m:dR w0 X H β w)(m0:dR w0 X H0 β0 w00)(g0:eT X H0 β0 w00 H β w){id b:Nat}{o':bB}(hm:(H id).mut=true)(hb:β id=some b){w':World}(hos:w'.os=w.os)(htape:w'.tape=w.tape)(hout:w'.output=w.output)(hdr:w.drawn<=w'.drawn)(hsize:w'.heap.size=w.heap.size)(hother:∀k,k≠b->w'.heap[k]? =w.heap[k]?)
 (hpass:bQ w00 β0 H0 w' β (cE H id o') id)
 (hpl:bQ w β H w' β (cE H id o') id)
 (ho:(∀x v,RD w (Ex X β H) x v->RD w' (Ex X β (cE H id o')) x v)->(∀l v,R w (Ex X β H) β H l v->R w' (Ex X β (cE H id o')) β (cE H id o') l v)->
   dO w' (Ex X β (cE H id o')) β (cE H id o') id):
 dR w0 X (cE H id o') β w'/\eT X H0 β0 w00 (cE H id o') β w':=by
 have hlive:=bK hm;have hmut:∀i,(cE H id o' i).mut=true->(H i).mut=true:=λi h=>by
  by_cases hi:i=id
  ·subst hi;exact hm
  ·rw[cG _ _ hi]at h;exact h
 have hlv:∀i,(cE H id o' i).live=true->(H i).live=true:=λi h=>by
  by_cases hi:i=id
  ·subst hi;exact hlive
  ·rw[cG _ _ hi]at h;exact h
 have hsub:∀k,Ex X β (cE H id o') k->Ex X β H k:=λk he=>by
  rcases he with he|⟨i,h1,h2⟩
  ·exact .inl he
  ·exact .inr ⟨i,hmut i h1,h2⟩
 have hblk':∀k,¬Ex X β H k->w'.heap[k]? =w.heap[k]? :=λk he=>hother k (λe=>he (.inr ⟨id,hm,by rw[e];exact hb⟩));have hD:∀x v,RD w (Ex X β H) x v->RD w' (Ex X β (cE H id o')) x v:=λx v h=>h.step (λk _ he=>hblk' k he) (by rw[hsize];exact Nat.le_refl _) (λk _ he=>hsub k he);have hpo:∀i,i≠id->bQ w β H w' β (cE H id o') i:=λi hi=>by
  have hp:=bQ.refl (w:=w) (β:=β) (H:=H) i;unfold bQ at*;rw[cG _ _ hi];cases eH:H i with
  |absent=>trivial
  |dead=>rfl
  |box fz cs=>simpa only[eH]using hp
  |row fz s xs=>
   refine .inr ⟨⟨fz,xs,rfl,Nat.le_refl _⟩,rfl,λb' c t hbb hblk'=>⟨c,t,?_,rfl⟩⟩;rw[hother b' (λe=>?_)]
   ·exact hblk'
   ·subst e;exact hi (m.inj i id b' (by rw[eH];rfl) hlive hbb hb)
  |map fz ks vs=>simpa only[eH]using hp
  |iter fz ks vs=>simpa only[eH]using hp
  |know x v=>trivial
 have hR:∀l v,R w (Ex X β H) β H l v->R w' (Ex X β (cE H id o')) β (cE H id o') l v:=λl v h=>h.step hD λi=>by
  by_cases hi:i=id
  ·subst hi;exact hpl
  ·exact hpo i hi
 have hg:eT X H0 β0 w00 (cE H id o') β w':=by
  refine⟨by rw[hsize];exact g0.size,λk hk he=>(hblk' k λh=>he (g0.sub k hk h)).trans (g0.blk k hk he),λk hk he=>g0.sub k hk (hsub k he),λi=>?_⟩;by_cases hi:i=id
  ·subst hi;exact hpass
  ·exact(g0.pass i).trans (hpo i hi)
 refine⟨⟨⟨hos.trans m.ext.os,htape.trans m.ext.tape,hout.trans m.ext.output,by rw[hsize];exact m.ext.size,λk hk' hno=>(hother k (λe=>?_)).trans (m.ext.block k hk' hno),Nat.le_trans m.ext.drawn hdr⟩,m.xold,λi b' hl hbb=>?_,λi j b' hi hj=>m.inj i j b' (hlv i hi) (hlv j hj),λi=>?_,λid hid=>(m0.pin id hid).trans (hg.pass id)⟩,hg⟩
 ·subst e;rcases(m.fresh id k hlive hb).1 with h|h
  ·omega
  ·exact hno (h.2 hm)
 ·have:=m.fresh i b' (hlv i hl) hbb;rw[hsize];exact this.imp (Or.imp (λh=>h) λh=>⟨h.1,λhm'=>h.2 (hmut i hm')⟩) (λh=>h)
 ·by_cases hi:i=id
  ·subst hi;exact ho hD hR
  ·exact(m.obj i).step (by rw[hsize];exact Nat.le_refl _) (λk _ he=>⟨hblk' k he,λh=>he (hsub k h)⟩) hD hR (cG _ _ hi) (λ_=>rfl) λb' hl hbb=>
    hother b' (λe=>by subst e;exact hi (m.inj i id b' hl hlive hbb hb))
theorem dR.rewriteG(m:dR w0 X H β w){id b:Nat}{o':bB}(hm:(H id).mut=true)(hb:β id=some b){w':World}(hos:w'.os=w.os)(htape:w'.tape=w.tape)(hout:w'.output=w.output)(hdr:w.drawn<=w'.drawn)(hsize:w'.heap.size=w.heap.size)(hother:∀k,k≠b->w'.heap[k]? =w.heap[k]?)
 (hpass:bQ w β H w' β (cE H id o') id)
 (ho:(∀x v,RD w (Ex X β H) x v->RD w' (Ex X β (cE H id o')) x v)->(∀l v,R w (Ex X β H) β H l v->R w' (Ex X β (cE H id o')) β (cE H id o') l v)->
   dO w' (Ex X β (cE H id o')) β (cE H id o') id):
 dR w0 X (cE H id o') β w'/\eT X H β w (cE H id o') β w':=m.rewriteH m eT.refl hm hb hos htape hout hdr hsize hother hpass hpass ho
theorem dR.rewrite(m:dR w0 X H β w){id b:Nat}{o':bB}(hm:(H id).mut=true)(hb:β id=some b){cur cur':Array Value}{e:TypeId}(hblk:w.heap[b]? =some (.cells cur e (0,0)))(hsz:cur'.size=cur.size)
 (hk:(∃cs cs',H id=.box false cs/\o'=.box false cs')\/∃s xs xs',H id=.row false s xs/\o'=.row false s xs'/\xs.length<=xs'.length)
 (ho:(∀x v,RD w (Ex X β H) x v->RD (w.setRow b cur') (Ex X β (cE H id o')) x v)->(∀l v,R w (Ex X β H) β H l v->R (w.setRow b cur') (Ex X β (cE H id o')) β (cE H id o') l v)->
   dO (w.setRow b cur') (Ex X β (cE H id o')) β (cE H id o') id):
 dR w0 X (cE H id o') β (w.setRow b cur')/\eT X H β w (cE H id o') β (w.setRow b cur'):=by
 refine m.rewriteG hm hb rfl rfl rfl (Nat.le_refl _) (by simp[World.setRow]) (λk hk=>setRow_other w b k cur' (λe=>hk (by first|exact e|exact e.symm))) ?_ ho;unfold bQ;rw[aX];rcases hk with⟨cs,cs',h1,h2⟩|⟨s,xs,xs',h1,h2,h3⟩
 ·rw[h1,h2];exact .inr ⟨⟨false,cs',rfl⟩,rfl⟩
 ·rw[h1,h2];refine .inr ⟨⟨false,xs',rfl,h3⟩,rfl,λb' c t hbb hblk'=>?_⟩;rw[hb]at hbb;injection hbb with hbb;subst hbb
  rw[hblk]at hblk';injection hblk' with hblk'
  injection hblk' with e1 e2
  subst e1;subst e2;exact⟨cur',e,setRow_heap w b cur cur' e (0,0) hblk,hsz⟩
end
end
section
open Go.RowKit
def sY:TypeDesc->TK->Prop
 | .int k,.int k'=>k=k'
 | .bool,.bool=>True
 | .string,.str=>True
 | .slice e,.slice e'=>e=e'
 | .struct fs,.struct l=>fs.toList.map (λf=>(f.offset,f.type))=l
 | .array n e,.arr n' e'=>n=n'/\e=e'
 | .pointer e,.ptr e'=>e=e'
 | .map k e,.map k' e'=>k=k'/\e=e'
 | .map _ _,.other=>True
 | .func _ _ _,.other=>True
 | .interface _,.other=>True
 | .tuple _,.other=>True
 |_,_=>False
def mF(P:Program)(t:TypeId):TK->Prop
 | .int k=>P.underlying t=some (.int k)
 | .bool=>P.underlying t=some .bool
 | .str=>P.underlying t=some .string
 |_=>False
def rX(P:Program)(t:TypeId)(ks:List TK):Prop:=P.stoodInHeld t=false/\∃fs,P.underlying t=some (.struct fs)/\fs.toList.length=ks.length/\
    ∀(j:Nat) (f:Field) (k:TK),fs.toList[j]? =some f->ks[j]? =some k->f.name≠ "_" /\f.offset=j/\mF P f.type k
def Pk(P:Program)(t:TypeId)(ks:List TK):Prop:=∃n e inf kse,P.underlying t=some (.array n e)/\P.info? e=some inf/\inf.size=kse.length/\rX P e kse/\ks=(List.replicate n kse).flatten
structure aAA(P:Program)(t:TypeId)(i:fE):Prop where
 all:∃inf d z,P.info? t=some inf/\P.underlying t=some d/\sY d i.k/\inf.size=i.size/\inf.bytes=i.bytes/\inf.zero=some z/\z.cells.toList=i.zero
 one:∀u∈i.zero,u.oneCell'=true
 zv:∃inf,P.info? t=some inf/\inf.zero=some (if i.k.agg then .agg i.zero.toArray else i.zero.getD 0 undef)/\(i.k.agg=false->i.zero.length=1)
 len:i.zero.length=i.size
 eqk:i.eqk≠[]->P.eqGuardType P.depth t=false/\(rX P t i.eqk\/Pk P t i.eqk)
def fP(P:Program)(T:TypeId->fE):Prop:=∀t,(T t).k.isNone=false->aAA P t (T t)
def mD(P:Program)(w0:cX)(X:Nat->Prop)(H:Nat->bB)(β:Nat->Option Nat)(w:World)(a:Act)(o:Oper)(r:kQ):Prop:=
 ∀(K:Act->World->Prop) (Q:Exit->Act->World->Prop),(∀v w' β',dR w0 X (bW H r.up) β' w'->eT X H β w (bW H r.up) β' w'->R w' (Ex X β' (bW H r.up)) β' (bW H r.up) r.v v->K (a.put o.dst v) w')->o.wp P a w K Q
def Tw(P:Program)(w0:cX)(X:Nat->Prop)(H:Nat->bB)(β:Nat->Option Nat)(w:World)(a:Act)(o:Oper)(rs:kQ->Prop):Prop:=
 ∀(K:Act->World->Prop) (Q:Exit->Act->World->Prop),(∀r,rs r->∀v w' β',dR w0 X (bW H r.up) β' w'->eT X H β w (bW H r.up) β' w'->R w' (Ex X β' (bW H r.up)) β' (bW H r.up) r.v v->K (a.put o.dst v) w')->o.wp P a w K Q
section
variable{P:Program} {T:TypeId->fE} {w0:cX} {X:Nat->Prop} {H:Nat->bB} {β:Nat->Option Nat} {w:World} {a:Act} {o:Oper} {g:Operand->LV}
theorem mD.toE{r:kQ}{rs:kQ->Prop}(h:mD P w0 X H β w a o r)(hr:rs r):Tw P w0 X H β w a o rs:=λK Q hK=>h K Q (hK r hr)
theorem Tw.toS{r:kQ}{rs:kQ->Prop}(h:Tw P w0 X H β w a o rs)(hr:∀r',rs r'->r'.v=r.v/\r'.up=r.up):mD P w0 X H β w a o r:=λK Q hK=>h K Q λr' h' v w' β'=>by
 obtain⟨e1,e2⟩:=hr r' h';rw[e1,e2];exact hK v w' β'
theorem Tw.mono{rs rs':kQ->Prop}(h:Tw P w0 X H β w a o rs)(hr:∀r,rs r->∃r',rs' r'/\r'.v=r.v/\r'.up=r.up):Tw P w0 X H β w a o rs':=λK Q hK=>h K Q λr h' v w' β'=>by
 obtain⟨r',h1,e1,e2⟩:=hr r h';rw[<-e1,<-e2];exact hK r' h1 v w' β'
theorem dE{r:kQ}{v:Value}{w':World}{β':Nat->Option Nat}(hr:(execOp a.eval o).run P w=.ok (.value v) w')(m:dR w0 X (bW H r.up) β' w')(gg:eT X H β w (bW H r.up) β' w')
 (hv:R w' (Ex X β' (bW H r.up)) β' (bW H r.up) r.v v):mD P w0 X H β w a o r:=by
 intro K Q hK;unfold Oper.wp;rw[hr];exact hK v w' β' m gg hv
theorem mD.plain(m:dR w0 X H β w){lv:LV}{c:Prop}{v:Value}(hr:(execOp a.eval o).run P w=.ok (.value v) w)(hv:R w (Ex X β H) β H lv v):mD P w0 X H β w a o ⟨lv,c,[]⟩:=
 dE hr m eT.refl hv
theorem fP.parts(hT:fP P T){t:TypeId}(h:(T t).k.isNone=false):∃inf d z,P.info? t=some inf/\P.underlying t=some d/\sY d (T t).k/\inf.size=(T t).size/\inf.bytes=(T t).bytes/\inf.zero=some z/\z.cells.toList=(T t).zero:=(hT t h).all
theorem fP.slice(hT:fP P T){t e:TypeId}(h:(T t).k=.slice e):P.underlying t=some (.slice e):=by
 obtain⟨inf,d,z,h1,h2,h3,_⟩:=hT.parts (t:=t) (by rw[h];rfl);rw[h]at h3;cases d<;>simp_all[sY]
theorem fP.mapd(hT:fP P T){t k e:TypeId}(h:(T t).k=.map k e):P.underlying t=some (.map k e):=by
 obtain⟨inf,d,z,h1,h2,h3,_⟩:=hT.parts (t:=t) (by rw[h];rfl);rw[h]at h3;cases d<;>simp_all[sY]
theorem fP.int(hT:fP P T){t:TypeId}{k:IntKind}(h:(T t).k=.int k):P.underlying t=some (.int k):=by
 obtain⟨inf,d,z,h1,h2,h3,_⟩:=hT.parts (t:=t) (by rw[h];rfl);rw[h]at h3;cases d<;>simp_all[sY]
theorem fP.str(hT:fP P T){t:TypeId}(h:(T t).k=.str):P.underlying t=some .string:=by
 obtain⟨inf,d,z,h1,h2,h3,_⟩:=hT.parts (t:=t) (by rw[h];rfl);rw[h]at h3;cases d<;>simp_all[sY]
theorem fP.arr(hT:fP P T){t e:TypeId}{n:Nat}(h:(T t).k=.arr n e):P.underlying t=some (.array n e):=by
 obtain⟨inf,d,z,h1,h2,h3,_⟩:=hT.parts (t:=t) (by rw[h];rfl);rw[h]at h3;cases d<;>simp_all[sY]
theorem fP.struct(hT:fP P T){t:TypeId}{l:List (Nat×TypeId)}(h:(T t).k=.struct l):∃fs,P.underlying t=some (.struct fs)/\fs.toList.map (λf=>(f.offset,f.type))=l:=by
 obtain⟨inf,d,z,h1,h2,h3,_⟩:=hT.parts (t:=t) (by rw[h];rfl);rw[h]at h3;cases d<;>simp_all[sY]
theorem FU:∀(cs:List LV) (ds:List DV),Mn cs=some ds->cs=ds.map .d
 |[],ds,h=>by simp[Mn]at h;subst h;rfl
 |c::r,ds,h=>by
  cases c<;>simp only[Mn,Option.map_eq_some_iff,reduceCtorEq]at h;obtain⟨ys,h1,rfl⟩:=h;rw[FU r ys h1];rfl
theorem R.mkAgg{E:Nat->Prop}{cs:List LV}{vs:List Value}(hl:vs.length=cs.length)(h1:∀u∈vs,u.oneCell'=true)(h:∀(i:Nat) (c:LV) (v:Value),cs[i]? =some c->vs[i]? =some v->R w E β H c v):R w E β H (mkAgg cs) (.agg vs.toArray):=by
 unfold Eng.mkAgg;cases e:Mn cs with
 |none=>exact .agg cs vs hl h1 h
 |some ds=>
  have:=FU cs ds e;subst this;refine .d _ _ (.agg ds vs (by simpa using hl) h1 λi c v hc hv=>?_);have:=h i (.d c) v (by simp[hc]) hv;cases this with|d _ _ h=>exact h
theorem Pl(m:dR w0 X H β w)(hg:∀x,R w (Ex X β H) β H (g x) (a.eval x))(x:Operand)(ho:o.op=.move x\/o.op=.assign x):mD P w0 X H β w a o (.plain (g x)):=
 mD.plain m (v:=a.eval x) (by rcases ho with ho|ho<;>simp[execOp,ho]) (hg x)
theorem R.int{E:Nat->Prop}{k:IntKind}{n:Int}{v:Value}(h:R w E β H (.d (.int k n)) v):v=.int k n:=by cases h with|d _ _ h=>cases h;rfl
theorem R.bool{E:Nat->Prop}{b:Bool}{v:Value}(h:R w E β H (.d (.bool b)) v):v=.bool b:=by cases h with|d _ _ h=>cases h;rfl
theorem R.str{E:Nat->Prop}{s:List UInt8}{v:Value}(h:R w E β H (.d (.str s)) v):v=.string ⟨s.toArray⟩:=by cases h with|d _ _ h=>cases h;rfl
theorem dF{E:Nat->Prop}(k:IntKind)(n:Int):R w E β H (.d (.int k n)) (.int k n):=.d _ _ (.int k n)
theorem cU{E:Nat->Prop}(b:Bool):R w E β H (.d (.bool b)) (.bool b):=.d _ _ (.bool b)
theorem wT{E:Nat->Prop}(s:List UInt8):R w E β H (.d (.str s)) (.string ⟨s.toArray⟩):=.d _ _ (.str s)
theorem zO(d:Nat):∀(xs ys:List DV) (ks:List TK) (vx vy:List Value) (A B:Array Value) (fs:List Field) (j:Nat) (c:Bool) (E:Nat->Prop),
 iM xs ys=some c->bZ ks xs=true->vx.length=xs.length->vy.length=ys.length->fs.length=ks.length->
 (∀(i:Nat) (c:DV) (v:Value),xs[i]? =some c->vx[i]? =some v->RD w E c v)->(∀(i:Nat) (c:DV) (v:Value),ys[i]? =some c->vy[i]? =some v->RD w E c v)->
 (∀(i:Nat) v,vx[i]? =some v->A[j+i]? =some v)->(∀(i:Nat) v,vy[i]? =some v->B[j+i]? =some v)->
 (∀(i:Nat) (f:Field) (k:TK),fs[i]? =some f->ks[i]? =some k->f.name≠ "_" /\f.offset=j+i/\mF P f.type k)->
 (Op.eqFields (d+1) A B fs).run P w=.ok c w:=by
 intro xs;induction xs with
 |nil=>
  intro ys ks vx vy A B fs j c E h1 hk h2 h3 h4 _ _ _ _ _;cases ys with
  |nil=>
   simp only[iM,Option.some.injEq]at h1;subst h1;cases ks with
   |nil=>have:fs=[]:=List.eq_nil_of_length_eq_zero (by simpa using h4);subst this;simp[Op.eqFields]
   |cons=>simp[bZ]at hk
  |cons=>simp[iM]at h1
 |cons x xs ih=>
  intro ys ks vx vy A B fs j c E h1 hk h2 h3 h4 hx hy hA hB hf;cases ks with
  |nil=>simp[bZ]at hk
  |cons k ks=>
  cases ys with
  |nil=>simp[iM]at h1
  |cons y ys=>
   match vx,h2,vy,h3,fs,h4 with
   |u::vx,h2,v::vy,h3,f::fs,h4=>
    simp only[bZ,Bool.and_eq_true]at hk;simp only[iM]at h1;cases e1:Jk x y with
    |none=>simp[e1]at h1
    |some p=>
     cases e2:iM xs ys with
     |none=>simp[e1,e2]at h1
     |some q=>
      simp only[e1,e2,Option.some.injEq]at h1;subst h1;obtain⟨hn,hoff,hty⟩:=hf 0 f k rfl rfl;have hu:=hx 0 x u rfl rfl;have hv:=hy 0 y v rfl rfl;have hAu:A[j]? =some u:=hA 0 u rfl;have hBv:B[j]? =some v:=hB 0 v rfl;have hrest:=ih ys ks vx vy A B fs (j+1) q E e2 hk.2 (by simpa using h2) (by simpa using h3) (by simpa using h4)
       (λi c v hc hv=>hx (i+1) c v (by simpa using hc) (by simpa using hv)) (λi c v hc hv=>hy (i+1) c v (by simpa using hc) (by simpa using hv))
       (λi v hv=>by have:=hA (i+1) v (by simpa using hv);rw[Nat.add_assoc,Nat.add_comm 1 i];exact this)
       (λi v hv=>by have:=hB (i+1) v (by simpa using hv);rw[Nat.add_assoc,Nat.add_comm 1 i];exact this)
       (λi f k hf' hk'=>by have:=hf (i+1) f k (by simpa using hf') (by simpa using hk');rw[Nat.add_assoc,Nat.add_comm 1 i];exact this)
      have hnagg:∀cs i v,cs[i]? =some v->(part f.type cs i).run P w=.ok v w:=by
       intro cs i v hcs;cases k<;>simp only[mF]at hty<;>first|exact hty.elim|simp[part,isAgg,run_underlying hty,hcs]
      have heq:(Op.equalIn (d+1) f.type u v).run P w=.ok p w:=by
       have hk1:=hk.1;cases x<;>cases y<;>simp only[Jk,reduceCtorEq,Option.some.injEq,Option.ite_none_right_eq_some]at e1
       ·obtain⟨e1,e3⟩:=e1;subst e1;subst e3;cases hu;cases hv;cases k<;>simp only[gJ,Bool.false_eq_true]at hk1;rw[run_equalIn_int w d f.type _ _ _ _ hty];congr 1
       ·subst e1;cases hu;cases hv;cases k<;>simp only[gJ,Bool.false_eq_true]at hk1;exact run_equalIn_bool' w d f.type _ _ hty
       ·subst e1;cases hu;cases hv;cases k<;>simp only[gJ,Bool.false_eq_true]at hk1;rw[run_equalIn_string w d f.type _ _ hty,ByteArray.toList_eq,ByteArray.toList_eq]
      simp only[Op.eqFields,hn,ne_eq,not_false_eq_true,if_true,Sem.run_bind,hoff,Nat.add_zero,hnagg _ _ _ hAu,hnagg _ _ _ hBv,Result.andThen_ok,heq,Sem.run_ite];cases p
      ·simp
      ·simpa using hrest
end
end
section
open Go.RowKit
section
variable{P:Program} {T:TypeId->fE} {w0:cX} {X:Nat->Prop} {H:Nat->bB} {β:Nat->Option Nat} {w:World} {a:Act} {o:Oper} {g:Operand->LV} {E:Nat->Prop}
theorem AR(op:BinOp)(t:TypeId)(ox oy:Operand)(k:IntKind)(n:Int)(v:Value):(eqGuard op t ox oy (.int k n) v).run P w=.ok () w:=by cases op<;>cases v<;>rfl
theorem Mq(op:BinOp)(t:TypeId)(ox oy:Operand)(b:Bool)(v:Value):(eqGuard op t ox oy (.bool b) v).run P w=.ok () w:=by cases op<;>cases v<;>rfl
theorem QF(op:BinOp)(t:TypeId)(ox oy:Operand)(s:ByteArray)(v:Value):(eqGuard op t ox oy (.string s) v).run P w=.ok () w:=by cases op<;>cases v<;>rfl
theorem Xn(op:BinOp)(t:TypeId)(ks:List TK)(tb:Bool){k k':IntKind}{a b:Int}(hok:(fU ks tb op (.d (.int k a)) (.d (.int k' b))).ok):
 ∃v,(binOp op t (.int k a) (.int k' b)).run P w=.ok v w/\(fU ks tb op (.d (.int k a)) (.d (.int k' b))).up=[]/\R w E β H (fU ks tb op (.d (.int k a)) (.d (.int k' b))).v v:=by
 unfold fU at*;cases op with
 |add=>
  simp only at hok|-;by_cases hk:k=k'
  ·subst hk;by_cases h64:k=.i64
   ·subst h64;simp only[if_true,kQ.cond]at hok|-;exact⟨_,by simp[binOp,Op.intArith,IntWalk.i64_in _ hok],by trivial,dF _ _⟩
   ·simp only[if_true,if_neg h64,kQ.plain]at hok|-;exact⟨_,by simp[binOp,Op.intArith],by trivial,dF _ _⟩
  ·simp only[if_neg hk,kQ.fail]at hok
 |sub=>
  simp only at hok|-;by_cases hk:k=k'
  ·subst hk;by_cases h64:k=.i64
   ·subst h64;simp only[if_true,kQ.cond]at hok|-;exact⟨_,by simp[binOp,Op.intArith,IntWalk.i64_in _ hok],by trivial,dF _ _⟩
   ·simp only[if_true,if_neg h64,kQ.plain]at hok|-;exact⟨_,by simp[binOp,Op.intArith],by trivial,dF _ _⟩
  ·simp only[if_neg hk,kQ.fail]at hok
 |mul=>
  simp only at hok|-;by_cases hk:k=k'
  ·subst hk;by_cases h64:k=.i64
   ·subst h64;simp only[if_true,kQ.cond]at hok|-;exact⟨_,by simp[binOp,Op.intArith,IntWalk.i64_in _ hok],by trivial,dF _ _⟩
   ·simp only[if_true,if_neg h64,kQ.plain]at hok|-;exact⟨_,by simp[binOp,Op.intArith],by trivial,dF _ _⟩
  ·simp only[if_neg hk,kQ.fail]at hok
 |quo=>
  simp only at hok|-;by_cases hk:k=k'
  ·subst hk;by_cases h64:k=.i64
   ·subst h64;simp only[if_true,kQ.cond]at hok|-;exact⟨_,by simp[binOp,Op.intDiv,hok.1,IntWalk.i64_in _ hok.2],by trivial,dF _ _⟩
   ·simp only[if_true,if_neg h64,kQ.cond]at hok|-;exact⟨_,by simp[binOp,Op.intDiv,hok],by trivial,dF _ _⟩
  ·simp only[if_neg hk,kQ.fail]at hok
 |rem=>
  simp only at hok|-;by_cases hk:k=k'
  ·subst hk;simp only[if_true,kQ.cond]at hok|-;exact⟨_,by simp[binOp,Op.intDiv,hok],by trivial,dF _ _⟩
  ·simp only[if_neg hk,kQ.fail]at hok
 |shl=>
  simp only[kQ.cond]at hok|-;exact⟨_,by simp[binOp,Op.shift,Int.not_lt.2 hok],by trivial,dF _ _⟩
 |shr=>
  simp only[kQ.cond]at hok|-;exact⟨_,by simp[binOp,Op.shift,Int.not_lt.2 hok],by trivial,dF _ _⟩
 |andNot=>exact hok.elim
 |and=>
  simp only at hok|-;by_cases hk:k=k'
  ·subst hk;simp only[if_true,kQ.plain]at hok|-;exact⟨_,by simp[binOp,Op.intBits],by trivial,dF _ _⟩
  ·simp only[if_neg hk,kQ.fail]at hok
 |or=>
  simp only at hok|-;by_cases hk:k=k'
  ·subst hk;simp only[if_true,kQ.plain]at hok|-;exact⟨_,by simp[binOp,Op.intBits],by trivial,dF _ _⟩
  ·simp only[if_neg hk,kQ.fail]at hok
 |xor=>
  simp only at hok|-;by_cases hk:k=k'
  ·subst hk;simp only[if_true,kQ.plain]at hok|-;exact⟨_,by simp[binOp,Op.intBits],by trivial,dF _ _⟩
  ·simp only[if_neg hk,kQ.fail]at hok
 |lss=>
  simp only at hok|-;by_cases hk:k=k'
  ·subst hk;simp only[if_true,kQ.plain]at hok|-;exact⟨_,by simp[binOp,Op.intCmp],by trivial,cU _⟩
  ·simp only[if_neg hk,kQ.fail]at hok
 |leq=>
  simp only at hok|-;by_cases hk:k=k'
  ·subst hk;simp only[if_true,kQ.plain]at hok|-;exact⟨_,by simp[binOp,Op.intCmp],by trivial,cU _⟩
  ·simp only[if_neg hk,kQ.fail]at hok
 |gtr=>
  simp only at hok|-;by_cases hk:k=k'
  ·subst hk;simp only[if_true,kQ.plain]at hok|-;exact⟨_,by simp[binOp,Op.intCmp],by trivial,cU _⟩
  ·simp only[if_neg hk,kQ.fail]at hok
 |geq=>
  simp only at hok|-;by_cases hk:k=k'
  ·subst hk;simp only[if_true,kQ.plain]at hok|-;exact⟨_,by simp[binOp,Op.intCmp],by trivial,cU _⟩
  ·simp only[if_neg hk,kQ.fail]at hok
 |eql=>
  simp only at hok|-;by_cases hk:k=k'
  ·subst hk;simp only[if_true,kQ.plain]at hok|-;exact⟨_,by simp[binOp,Op.intCmp];rfl,by trivial,cU _⟩
  ·simp only[if_neg hk,kQ.fail]at hok
 |neq=>
  simp only at hok|-;by_cases hk:k=k'
  ·subst hk;simp only[if_true,kQ.plain]at hok|-;exact⟨_,by simp[binOp,Op.intCmp];rfl,by trivial,cU _⟩
  ·simp only[if_neg hk,kQ.fail]at hok
theorem yA{t:TypeId}{ks:List TK}(h:rX P t ks)(d:Nat){a b:List DV}{c:Bool}{us vs:List Value}(he:iM a b=some c)(hk:bZ ks a=true)(hul:us.length=a.length)(hvl:vs.length=b.length)
 (hup:∀(i:Nat) (c:DV) (v:Value),a[i]? =some c->us[i]? =some v->RD w E c v)(hvp:∀(i:Nat) (c:DV) (v:Value),b[i]? =some c->vs[i]? =some v->RD w E c v):
 (Op.equalIn (d+2) t (.agg us.toArray) (.agg vs.toArray)).run P w=.ok c w:=by
 obtain⟨g2,fs,g3,g4,g5⟩:=h;have hfo:P.fieldsOf t=fs:=by simp[Program.fieldsOf,g3]
 have hrun:=run_equalIn_struct (P:=P) w (d+1) t us.toArray vs.toArray (by rw[hfo];exact g3) g2;rw[hfo,zO d a b ks us vs us.toArray vs.toArray fs.toList 0 c E he hk hul hvl g4 hup hvp (λi v h=>by simpa using h) (λi v h=>by simpa using h) (λi f k h1 h2=>by simpa using g5 i f k h1 h2)]at hrun;exact hrun
theorem Dn:∀{a b:List DV} {c:Bool},iM a b=some c->a.length=b.length
 |[],[],_,_=>rfl
 |x::a,y::b,c,h=>by
  simp only[iM]at h;split at h
  ·rename_i h2;simp[Dn h2]
  ·cases h
 |[],_::_,_,h=>by simp[iM]at h
 |_::_,[],_,h=>by simp[iM]at h
theorem Do:∀(n:Nat) {a b:List DV} {c:Bool},iM a b=some c->∃p q,iM (a.take n) (b.take n)=some p/\iM (a.drop n) (b.drop n)=some q/\c=(p&&q)
 |0,a,b,c,h=>⟨true,c,by simp[iM],by simpa using h,aM⟩
 |n+1,[],[],c,h=>by simp[iM]at h;subst h;exact⟨true,true,by simp[iM],by simp[iM],rfl⟩
 |n+1,x::a,y::b,c,h=>by
  simp only[iM]at h;split at h
  ·rename_i p q h1 h2;obtain⟨p',q',e1,e2,e3⟩:=Do n h2;refine⟨p&&p',q',by simp[iM,h1,e1],by simpa using e2,?_⟩;injection h with h
   rw[<-h,e3,Bool.and_assoc]
  ·cases h
 |_+1,[],_::_,_,h=>by simp[iM]at h
 |_+1,_::_,[],_,h=>by simp[iM]at h
theorem zP:∀{ks:List TK} {a:List DV},bZ ks a=true->a.length=ks.length
 |[],[],_=>rfl
 |_::ks,_::a,h=>by simp only[bZ,Bool.and_eq_true]at h;simp[zP h.2]
 |[],_::_,h=>by simp[bZ]at h
 |_::_,[],h=>by simp[bZ]at h
theorem uQ:∀{ks ls:List TK} {a:List DV},bZ (ks++ls) a=true->bZ ks (a.take ks.length)=true/\bZ ls (a.drop ks.length)=true
 |[],_,_,h=>⟨by simp[bZ],by simpa using h⟩
 |_::ks,ls,[],h=>by simp[bZ]at h
 |_::ks,ls,_::a,h=>by
  simp only[List.cons_append,bZ,Bool.and_eq_true]at h;obtain⟨h1,h2⟩:=uQ h.2;exact⟨by simp[bZ,h.1,h1],by simpa using h2⟩
theorem BL{e:TypeId}{inf:TypeInfo}{kse:List TK}(hi:P.info? e=some inf)(hsz:inf.size=kse.length)(hs:rX P e kse)(d:Nat)(xs ys:Array Value):∀(m k:Nat) (a b:List DV) (c:Bool) (us vs:List Value),
 iM a b=some c->bZ (List.replicate m kse).flatten a=true->us.length=a.length->vs.length=b.length->
 (∀(i:Nat) (c:DV) (v:Value),a[i]? =some c->us[i]? =some v->RD w E c v)->(∀(i:Nat) (c:DV) (v:Value),b[i]? =some c->vs[i]? =some v->RD w E c v)->
 (∀i,i<us.length->xs[k*kse.length+i]? =us[i]?)->(∀i,i<vs.length->ys[k*kse.length+i]? =vs[i]?)->
 (Op.eqItems (d+2) e kse.length xs ys (List.range' k m)).run P w=.ok c w
 |0,k,a,b,c,us,vs,he,hk,_,_,_,_,_,_=>by
  have:a=[]:=by cases a<;>simp_all[bZ]
  subst this;have:b=[]:=List.eq_nil_of_length_eq_zero (Dn he).symm;subst this;simp only[iM,Option.some.injEq]at he;subst he;simp[Op.eqItems]
 |m+1,k,a,b,c,us,vs,he,hk,hul,hvl,hup,hvp,hx,hy=>by
  rw[List.replicate_succ,List.flatten_cons]at hk;obtain⟨k1,k2⟩:=uQ hk;obtain⟨p,q,e1,e2,rfl⟩:=Do kse.length he;have hal:=zP hk;rw[List.length_append]at hal;have hab:=Dn he;have hpart:∀(xs:Array Value) (us:List Value),us.length=a.length->(∀i,i<us.length->xs[k*kse.length+i]? =us[i]?)->(part e xs (k*kse.length)).run P w=.ok (.agg (us.take kse.length).toArray) w:=by
   intro xs us hl hx;obtain⟨g2,fs,g3,_⟩:=hs;have hco:P.cellsOf e=kse.length:=by rw[<-hsz];simp[Program.cellsOf,hi]
   have hag:(isAgg e).run P w=.ok true w:=(by simp[isAgg,run_underlying g3]);have hso:(sizeOf e).run P w=.ok kse.length w:=(by simp[sizeOf,typeInfo,run_program,hi,hsz]);simp only[part,Sem.run_bind,hag,Result.andThen_ok,if_true,hso,Sem.run_pure];congr 2;apply Array.ext_getElem?;intro i;rw[Array.getElem?_extract,show(us.take kse.length).toArray[i]? =(us.take kse.length)[i]? from aM,List.getElem?_take];by_cases hiL:i<kse.length
   ·have h1:=hx i aE;have h2:k*kse.length+i<xs.size:=by
     rw[List.getElem?_eq_getElem aE]at h1;exact(Array.getElem?_eq_some_iff.1 h1).1
    rw[if_pos aE,if_pos hiL,h1]
   ·rw[if_neg aE,if_neg hiL]
  simp only[List.range'_succ,Op.eqItems,Sem.run_bind,hpart xs us hul hx,hpart ys vs aE hy,Result.andThen_ok];have hst:=yA (w:=w) (E:=E) hs d (us:=us.take kse.length) (vs:=vs.take kse.length) e1 k1 (by simp[hul]) (by simp[hvl])
   (λi c v hc hv=>hup i c v (by rw[List.getElem?_take]at hc;split at hc<;>simp_all) (by rw[List.getElem?_take]at hv;split at hv<;>simp_all))
   (λi c v hc hv=>hvp i c v (by rw[List.getElem?_take]at hc;split at hc<;>simp_all) (by rw[List.getElem?_take]at hv;split at hv<;>simp_all))
  rw[hst];simp only[Result.andThen_ok];have hrec:=BL hi hsz hs d xs ys m (k+1) (a.drop kse.length) (b.drop kse.length) q (us.drop kse.length) (vs.drop kse.length) e2 k2 (by simp[hul]) (by simp[hvl])
   (λi c v hc hv=>hup (kse.length+i) c v (by simpa using hc) (by simpa using hv)) (λi c v hc hv=>hvp (kse.length+i) c v (by simpa using hc) (by simpa using hv))
   (λi hi=>by simp at hi;rw[List.getElem?_drop,<-hx _ aE];congr 1;rw[Nat.add_mul];omega)
   (λi hi=>by simp at hi;rw[List.getElem?_drop,<-hy _ aE];congr 1;rw[Nat.add_mul];omega)
  cases p
  ·simp
  ·simp only[Bool.not_true,Bool.false_eq_true,if_false,Bool.true_and];exact hrec
theorem Mr{t:TypeId}{ks:List TK}(h:Pk P t ks)(d:Nat){a b:List DV}{c:Bool}{us vs:List Value}(he:iM a b=some c)(hk:bZ ks a=true)(hul:us.length=a.length)(hvl:vs.length=b.length)
 (hup:∀(i:Nat) (c:DV) (v:Value),a[i]? =some c->us[i]? =some v->RD w E c v)(hvp:∀(i:Nat) (c:DV) (v:Value),b[i]? =some c->vs[i]? =some v->RD w E c v):
 (Op.equalIn (d+3) t (.agg us.toArray) (.agg vs.toArray)).run P w=.ok c w:=by
 obtain⟨n,e,inf,kse,hu,hi,hsz,hs,rfl⟩:=h;have hco:P.cellsOf e=kse.length:=by rw[<-hsz];simp[Program.cellsOf,hi]
 rw[run_equalIn_array w (d+2) _ _ hu hi,hco,List.range_eq_range'];exact BL hi hsz hs d _ _ n 0 a b c us vs he hk hul hvl hup hvp (λi _=>aM) (λi _=>aM)
theorem Dp{t:TypeId}{ks:List TK}(h:rX P t ks\/Pk P t ks){a b:List DV}{c:Bool}{us vs:List Value}(he:iM a b=some c)(hk:bZ ks a=true)(hul:us.length=a.length)(hvl:vs.length=b.length)
 (hup:∀(i:Nat) (c:DV) (v:Value),a[i]? =some c->us[i]? =some v->RD w E c v)(hvp:∀(i:Nat) (c:DV) (v:Value),b[i]? =some c->vs[i]? =some v->RD w E c v):
 (Op.equalIn 10000 t (.agg us.toArray) (.agg vs.toArray)).run P w=.ok c w:=by
 rcases h with h|h
 ·exact yA h 9998 he hk hul hvl hup hvp
 ·exact Mr h 9997 he hk hul hvl hup hvp
theorem Xo(hT:fP P T)(op:BinOp)(t:TypeId)(ox oy:Operand){x y:LV}{vx vy:Value}(hx:R w E β H x vx)(hy:R w E β H y vy)(hok:(fU (T t).eqk (T t).k.isBool op x y).ok)(ht:(T t).eqk≠[]->(T t).k.isNone=false):
 ∃v,((do eqGuard op t ox oy vx vy;binOp op t vx vy:Sem Value)).run P w=.ok v w/\(fU (T t).eqk (T t).k.isBool op x y).up=[]/\R w E β H (fU (T t).eqk (T t).k.isBool op x y).v v:=by
 have hok0:=hok;unfold fU at hok;split at hok
 ·rename_i k a k' b;have:=hx.int;subst this;have:=hy.int;subst this;obtain⟨v,h1,h2,h3⟩:=Xn (P:=P) (w:=w) (E:=E) (β:=β) (H:=H) op t (T t).eqk (T t).k.isBool hok0;exact⟨v,by rw[Sem.run_bind,AR];exact h1,h2,h3⟩
 ·rename_i a b;have:=hx.str;subst this;have:=hy.str;subst this;simp only[Sem.run_bind,QF,Result.andThen_ok];unfold fU;cases op with
 |add=>
  simp only[kQ.cond]at hok|-;refine⟨_,?_,by trivial,wT _⟩;have:=run_string_add_sum (P:=P) (w:=w) ⟨a.toArray⟩ ⟨b.toArray⟩ (by simpa [ByteArray.size]using hok);simp only[binOp];rw[this];congr 2
 |lss=>
  simp only[kQ.plain]at hok|-;exact⟨_,by simp[binOp,Op.stringOp,ByteArray.toList_eq],by trivial,cU _⟩
 |leq=>
  simp only[kQ.plain]at hok|-;exact⟨_,by simp[binOp,Op.stringOp,ByteArray.toList_eq],by trivial,cU _⟩
 |gtr=>
  simp only[kQ.plain]at hok|-;exact⟨_,by simp[binOp,Op.stringOp,ByteArray.toList_eq],by trivial,cU _⟩
 |geq=>
  simp only[kQ.plain]at hok|-;exact⟨_,by simp[binOp,Op.stringOp,ByteArray.toList_eq],by trivial,cU _⟩
 |eql=>
  simp only[kQ.plain]at hok|-;exact⟨_,by simp[binOp,Op.stringOp,ByteArray.toList_eq],by trivial,cU _⟩
 |neq=>
  simp only[kQ.plain]at hok|-;exact⟨_,by simp[binOp,Op.stringOp,ByteArray.toList_eq],by trivial,cU _⟩
 |sub|mul|quo|rem|and|or|xor|andNot|shl|shr=>exact hok.elim
 ·rename_i a b;unfold fU;cases op with
 |eql=>
  simp only at hok|-;cases e:iM a b with
  |none=>rw[e]at hok;exact hok.elim
  |some c=>
   rw[e]at hok;simp only[kQ.cond]at hok|-;obtain⟨hk,hne⟩:=hok;have hek:(T t).eqk≠[]:=by intro h;rw[h]at hk;cases a<;>simp_all[bZ]
   obtain⟨g1,g2⟩:=(hT t (ht hek)).eqk hek;cases hx with
  |d _ _ hx=>cases hx with
   |agg _ us hul _ hup=>cases hy with
    |d _ _ hy=>cases hy with
     |agg _ vs hvl _ hvp=>
       have hrun:=Dp (w:=w) (E:=E) g2 e hk hul hvl hup hvp;refine⟨_,?_,by trivial,cU _⟩;rw[Sem.run_bind,run_eqGuard_agg w _ t ox oy _ _ g1];simp only[Result.andThen_ok];rw[run_eql_struct,hrun];rfl
 |neq=>
  simp only at hok|-;cases e:iM a b with
  |none=>rw[e]at hok;exact hok.elim
  |some c=>
   rw[e]at hok;simp only[kQ.cond]at hok|-;obtain⟨hk,hne⟩:=hok;have hek:(T t).eqk≠[]:=by intro h;rw[h]at hk;cases a<;>simp_all[bZ]
   obtain⟨g1,g2⟩:=(hT t (ht hek)).eqk hek;cases hx with
  |d _ _ hx=>cases hx with
   |agg _ us hul _ hup=>cases hy with
    |d _ _ hy=>cases hy with
     |agg _ vs hvl _ hvp=>
       have hrun:=Dp (w:=w) (E:=E) g2 e hk hul hvl hup hvp;refine⟨_,?_,by trivial,cU _⟩;rw[Sem.run_bind,run_eqGuard_agg w _ t ox oy _ _ g1];simp only[Result.andThen_ok];rw[run_neq_struct,hrun];rfl
 |add|sub|mul|quo|rem|and|or|xor|andNot|shl|shr|lss|leq|gtr|geq=>exact hok.elim
 ·rename_i a b;have:=hx.bool;subst this;have:=hy.bool;subst this;simp only[Sem.run_bind,Mq,Result.andThen_ok];unfold fU;have hbt:(T t).k.isBool=true->P.underlying t=some .bool:=λh=>by
   obtain⟨inf,d,z,h1,h2,h3,_⟩:=hT.parts (t:=t) (by cases e:(T t).k<;>simp_all[TK.isBool,TK.isNone]);cases e:(T t).k<;>simp_all[TK.isBool];cases d<;>simp_all[sY]
  cases op with
  |eql=>
   simp only[kQ.cond]at hok|-;exact⟨_,by simp[binOp,Op.equal,Op.maxDepth,run_equalIn_bool' w 9999 t a b (hbt hok)],by trivial,cU _⟩
  |neq=>
   simp only[kQ.cond]at hok|-;exact⟨_,by simp[binOp,Op.equal,Op.maxDepth,run_equalIn_bool' w 9999 t a b (hbt hok)],by trivial,cU _⟩
  |add|sub|mul|quo|rem|and|or|xor|andNot|shl|shr|lss|leq|gtr|geq=>exact hok.elim
 ·exact hok.elim
theorem Zr(hT:fP P T)(m:dR w0 X H β w)(hg:∀x,R w (Ex X β H) β H (g x) (a.eval x)){op:BinOp}{t u:TypeId}{x y:Operand}(ho:o.op=.binOp op t x y u)
 (hok:(fU (T t).eqk (T t).k.isBool op (g x) (g y)).ok)(ht:(T t).eqk≠[]->(T t).k.isNone=false):mD P w0 X H β w a o (fU (T t).eqk (T t).k.isBool op (g x) (g y)):=by
 obtain⟨v,h1,h2,h3⟩:=Xo hT op t x y (hg x) (hg y) hok ht;refine dE (v:=v) (w':=w) (β':=β) ?_ (by rw[h2];exact m) (by rw[h2];exact eT.refl) (by rw[h2];exact h3);unfold execOp;simp only[ho];rw[Sem.run_bind,h1];rfl
theorem Ms(d:Nat){t e:TypeId}(p:Option Addr)(h:P.underlying t=some (.pointer e)):(Op.equalIn (d+1) t (.pointer p) (.pointer none)).run P w=.ok p.isNone w:=by
 cases p<;>simp[Op.equalIn,run_underlying h]
theorem Zs(hT:fP P T)(m:dR w0 X H β w)(hg:∀x,R w (Ex X β H) β H (g x) (a.eval x)){op:BinOp}{t u:TypeId}{x y:Operand}(ho:o.op=.binOp op t x y u)
 (hp:(T t).k.isPtr=true)(hok:(qP op (g x) (g y)).ok):mD P w0 X H β w a o (qP op (g x) (g y)):=by
 obtain⟨e,hu⟩:∃e,P.underlying t=some (.pointer e):=by
  obtain⟨inf,d,z,h1,h2,h3,_⟩:=hT.parts (t:=t) (by cases q:(T t).k<;>simp_all[TK.isPtr,TK.isNone]);cases q:(T t).k<;>simp_all[TK.isPtr];cases d<;>simp_all[sY]
 have hx:=hg x;have hy:=hg y;generalize hvx:a.eval x=vx at hx;generalize hvy:a.eval y=vy at hy;generalize g x=lx at*;generalize g y=ly at*;have fin:∀(p:Option Addr),vx=.pointer p->vy=.pointer none->(execOp a.eval o).run P w=.ok (.value (.bool (if op=.eql then p.isNone else !p.isNone))) w:=λp h1 h2=>by
  subst h1;subst h2;cases op<;>simp_all[execOp,eqGuard,binOp,Op.equal,Op.maxDepth,Ms,qP,kQ.fail]
 unfold qP at*;split at hok
 ·cases hx with|d _ _ hx=>cases hx with|ro _ b off us=>cases hy with|d _ _ hy=>cases hy with|val _ _=>exact mD.plain m (fin _ rfl rfl) (cU _)
 ·cases hx with|d _ _ hx=>cases hx with|ro _ b off us=>cases hy with|d _ _ hy=>cases hy with|val _ _=>exact mD.plain m (fin _ rfl rfl) (cU _)
 ·cases hx with|d _ _ hx=>cases hx with|val _ _=>cases hy with|d _ _ hy=>cases hy with|val _ _=>exact mD.plain m (fin _ rfl rfl) (cU _)
 ·cases hx with|d _ _ hx=>cases hx with|val _ _=>cases hy with|d _ _ hy=>cases hy with|val _ _=>exact mD.plain m (fin _ rfl rfl) (cU _)
 ·exact hok.elim
theorem aAB(m:dR w0 X H β w)(hg:∀x,R w (Ex X β H) β H (g x) (a.eval x)){op:UnOp}{t:TypeId}{x:Operand}(ho:o.op=.unOp op t x)
 (hok:(Dg op (g x)).ok):mD P w0 X H β w a o (Dg op (g x)):=by
 have hx:=hg x;generalize g x=lx at*;unfold Dg at*;split at hok
 ·have:=hx.bool;exact mD.plain m (v:=.bool _) (by simp[execOp,ho,this,Op.unary]) (cU _)
 ·rename_i k n;have:=hx.int;exact mD.plain m (v:=.int k _) (by simp only[execOp,ho,this,Op.unary];rfl) (dF _ _)
 ·rename_i k n;have:=hx.int;by_cases h64:k=.i64
  ·subst h64;simp only[if_true,kQ.cond]at hok|-;exact mD.plain m (v:=.int .i64 (0-n)) (by simp only[execOp,ho,this,Op.unary,Op.intArith,IntWalk.i64_in _ hok];rfl) (dF _ _)
  ·simp only[if_neg h64,kQ.plain]at hok|-;exact mD.plain m (v:=.int k (k.wrap (0-n))) (by simp only[execOp,ho,this,Op.unary,Op.intArith];rfl) (dF _ _)
 ·exact hok.elim
theorem R.bools{x:LV}{v:Value}(hx:R w E β H x v)(he:bok x=true):v=.bool (QD x):=by
 unfold bok at he;split at he
 ·cases hx with|when _ _ _ h _=>exact(h he).bool
 ·exact hx.bool
 ·cases he
theorem Dq(m:dR w0 X H β w){c x y:Operand}{lc lx ly:LV}(hc:R w (Ex X β H) β H lc (a.eval c))(hx:R w (Ex X β H) β H lx (a.eval x))(hy:R w (Ex X β H) β H ly (a.eval y))(ho:o.op=.pick c x y)
 (hok:(nP lc lx ly).ok):mD P w0 X H β w a o (nP lc lx ly):=by
 unfold nP at*;split at hok
 ·rename_i p;have hcv:=hc.bool;simp only[kQ.cond]at hok|-;cases p
  ·have:=hy.bools (hok.2 rfl);exact mD.plain m (v:=.bool (QD ly)) (by simp[execOp,ho,hcv,this,asBool]) (cU _)
  ·have:=hx.bools (hok.1 rfl);exact mD.plain m (v:=.bool (QD lx)) (by simp[execOp,ho,hcv,this,asBool]) (cU _)
 ·exact hok.elim
theorem Xp(m:dR w0 X H β w)(hg:∀x,R w (Ex X β H) β H (g x) (a.eval x)){c x y:Operand}(ho:o.op=.pick c x y)
 (hok:(nP (g c) (g x) (g y)).ok):mD P w0 X H β w a o (nP (g c) (g x) (g y)):=Dq m (hg c) (hg x) (hg y) ho hok
theorem cD(H:Nat->bB)(d:Nat)(x:bB):bW H [(d,x)]=cE H d x:=by funext j;simp[bW,cE]
theorem pF(H:Nat->bB)(d:Nat)(x:bB)(l:List (Nat×bB)):bW H ((d,x)::l)=cE (bW H l) d x:=by funext j;simp[bW,cE]
theorem Pm(m:dR w0 X H β w){d:Nat}(hd:H d=.absent){cs:List LV}{us:List Value}(hl:us.length=cs.length)(h1:∀u∈us,u.oneCell'=true)(h:∀(i:Nat) (c:LV) (v:Value),cs[i]? =some c->us[i]? =some v->R w (Ex X β H) β H c v)(e:TypeId):
 dR w0 X (cE H d (.box false cs)) (cE β d (some w.heap.size)) (w.alloc (.cells us.toArray e))/\eT X H β w (cE H d (.box false cs)) (cE β d (some w.heap.size)) (w.alloc (.cells us.toArray e)):=
 m.newObj ((zN.refl _ _).alloc (Nat.le_refl _) _) hd (some w.heap.size) (λb hb=>by injection hb with hb;subst hb;simp) λ_ hR=>by
  unfold dO;rw[aX];exact⟨w.heap.size,e,us,by rw[aX],heap_alloc_new w _,hl,h1,λi c v hc hv=>hR _ _ (h i c v hc hv)⟩
theorem Pn(d b:Nat)(cs:List LV):R w E (cE β d (some b)) (cE H d (.box false cs)) (.bx d 0) (.pointer (some ⟨b,0,none⟩)):=
 .bx d 0 b false cs (by rw[aX]) (by rw[aX])
theorem Zt(m:dR w0 X H β w)(hg:∀x,R w (Ex X β H) β H (g x) (a.eval x)){t:TypeId}{x:Operand}(ho:o.op=.box t x){d:Nat}(hok:H d=.absent/\iU H (g x)=true):
 mD P w0 X H β w a o ⟨.bx d 0,H d=.absent/\iU H (g x)=true,[(d,.box false (dV (g x)))]⟩:=by
 obtain⟨h1,h2⟩:=(hg x).cells hok.2;have:=Pm m hok.1 h1 ((hg x).cells1 hok.2) h2 t;refine dE (v:=.pointer (some ⟨w.heap.size,0,none⟩)) (w':=w.alloc (.cells (a.eval x).cells.toList.toArray t)) (β':=cE β d (some w.heap.size)) ?_ ?_ ?_ ?_
 ·simp[execOp,ho,Instr.box,newVar,newRow]
 ·simp only[cD];exact this.1
 ·simp only[cD];exact this.2
 ·simp only[cD];exact Pn _ _ _
theorem TD(hT:fP P T)(m:dR w0 X H β w){t:TypeId}(ho:o.op=.alloc t){d:Nat}(hok:H d=.absent/\(T t).k.isNone=false):
 mD P w0 X H β w a o ⟨.bx d 0,H d=.absent/\(T t).k.isNone=false,[(d,.box false ((T t).zero.map oO))]⟩:=by
 obtain⟨inf,dd,z,h1,h2,h3,h4,h5,h6,h7⟩:=hT.parts hok.2;have:=Pm m hok.1 (cs:=(T t).zero.map oO) (us:=z.cells.toList) (by simp[h7]) (λu hu=>(hT t hok.2).one u (by rw[<-h7];exact hu)) (λi c v hc hv=>by
  rw[h7]at hv;simp[hv]at hc;subst hc;exact R.const v) t
 refine dE (v:=.pointer (some ⟨w.heap.size,0,none⟩)) (w':=w.alloc (.cells z.cells.toList.toArray t)) (β':=cE β d (some w.heap.size)) ?_ ?_ ?_ ?_
 ·simp[execOp,ho,Instr.alloc,zeroValue,typeInfo,h1,h6,newVar,newRow]
 ·simp only[cD];exact this.1
 ·simp only[cD];exact this.2
 ·simp only[cD];exact Pn _ _ _
end
end
section
open Go.RowKit
section
variable{P:Program} {T:TypeId->fE} {w0:cX} {X:Nat->Prop} {H:Nat->bB} {β:Nat->Option Nat} {w:World} {a:Act} {o:Oper} {g:Operand->LV} {E:Nat->Prop}
theorem Zu{d:TypeDesc}{k:TK}(h:sY d k):(match d with| .struct _| .array _ _=>true|_=>false)=k.agg:=by cases d<;>cases k<;>first|rfl|exact False.elim h
theorem FV(hT:fP P T){t:TypeId}(h:(T t).k.isNone=false):(isAgg t).run P w=.ok (T t).k.agg w:=by
 obtain⟨inf,d,z,h1,h2,h3,_⟩:=hT.parts h;have:=Zu h3;rw[<-this];cases d<;>simp[isAgg,run_underlying h2]
theorem cP(hT:fP P T){t:TypeId}(h:(T t).k.isNone=false):(sizeOf t).run P w=.ok (T t).size w:=by
 obtain⟨inf,d,z,h1,h2,h3,h4,_⟩:=hT.parts h;simp[sizeOf,typeInfo,h1,h4]
theorem uR(hT:fP P T){t:TypeId}(h:(T t).k.isNone=false){b off:Nat}{us:List Value}(hl:us.length=(T t).size)(hs:(T t).k.agg=false->(T t).size=1)
 (hc:∀(j:Nat) (u:Value),us[j]? =some u->w.cell? ⟨b,off+j,none⟩=some u):
 (loadVar t ⟨b,off,none⟩).run P w=.ok (if(T t).k.agg then .agg us.toArray else us.getD 0 undef) w:=by
 unfold loadVar;rw[Sem.run_bind,FV hT h];simp only[Result.andThen_ok];cases e:(T t).k.agg
 ·simp only[Bool.false_eq_true,if_false]
  match us,hl.trans (hs e)with
  |[u],_=>
   have:=hc 0 u rfl;simp only[Nat.add_zero]at this;simp[this]
 ·simp only[if_true,Sem.run_bind,cP hT h,Result.andThen_ok];rw[<-hl,run_loadCells_list (P:=P) (w:=w) ⟨b,off,none⟩ us (λj v hv=>by rw[Addr.add_lit];exact hc j v hv)];rfl
theorem CR{E:Nat->Prop}{cs:List DV}{us:List Value}{agg:Bool}{s off:Nat}(hul:cs.length<=us.length)(h1:∀{i:Nat} (u:Value),us[i]? =some u->i<cs.length->u.oneCell'=true)(hle:off+s<=cs.length)(hs:agg=false->s=1)
 (h:∀(i:Nat) (c:DV) (v:Value),cs[i]? =some c->us[i]? =some v->RD w E c v):
 RD w E (Dh agg s off cs) (if agg then .agg ((us.drop off).take s).toArray else((us.drop off).take s).getD 0 undef):=by
 unfold Dh;cases agg
 ·simp only[Bool.false_eq_true,if_false];have hs1:=hs rfl;subst hs1;have h1:off<cs.length:=aE;have h2:off<us.length:=aE;refine h off _ _ (by rw[List.getD_eq_getElem?_getD,List.getElem?_eq_getElem h1];rfl) ?_;simp[List.getD_eq_getElem?_getD,List.getElem?_drop,h2]
 ·simp only[if_true];refine .agg _ _ kG (λu hu=>?_) λi c v hc hv=>?_
  ·obtain⟨i,hi,rfl⟩:=List.getElem_of_mem hu;simp at hi;simp only[List.getElem_take,List.getElem_drop];exact h1 _ (List.getElem?_eq_getElem _) aE
  rw[List.getElem?_take]at hc hv;split at hc
  ·rename_i hi;rw[if_pos hi]at hv;rw[List.getElem?_drop]at hc hv;exact h _ c v hc hv
  ·cases hc
theorem HG{cs:List LV}{us:List Value}{agg:Bool}{s off:Nat}(hul:cs.length=us.length)(h1:∀u∈us,u.oneCell'=true)(hle:off+s<=cs.length)(hs:agg=false->s=1)
 (h:∀(i:Nat) (c:LV) (v:Value),cs[i]? =some c->us[i]? =some v->R w E β H c v):
 R w E β H (FT agg s off cs) (if agg then .agg ((us.drop off).take s).toArray else((us.drop off).take s).getD 0 undef):=by
 unfold FT;cases agg
 ·simp only[Bool.false_eq_true,if_false];have hs1:=hs rfl;subst hs1;have h1:off<cs.length:=aE;have h2:off<us.length:=aE;refine h off _ _ (by rw[List.getD_eq_getElem?_getD,List.getElem?_eq_getElem h1];rfl) ?_;simp[List.getD_eq_getElem?_getD,List.getElem?_drop,h2]
 ·simp only[if_true];refine R.mkAgg kG (λu hu=>h1 u (List.mem_of_mem_drop (List.mem_of_mem_take hu))) λi c v hc hv=>?_;rw[List.getElem?_take]at hc hv;split at hc
  ·rename_i hi;rw[if_pos hi]at hv;rw[List.getElem?_drop]at hc hv;exact h _ c v hc hv
  ·cases hc
theorem rY{s:Nat}{xs:List DV}{k:Nat}(hk:k<xs.length)(hs:∀x∈xs,(aQ x).length=s):(aQ (xs.getD k default)).length=s/\∀j,j<s->(bS xs)[k*s+j]? =(aQ (xs.getD k default))[j]? :=by
 have e:xs.getD k default=xs[k]:=by simp[List.getD_eq_getElem?_getD,hk]
 refine⟨by rw[e];exact hs _ (List.getElem_mem hk),λj hj=>?_⟩;rw[Jo hs k j hj,e,List.getElem?_eq_getElem hk];rfl
theorem Xq(hT:fP P T)(m:dR w0 X H β w)(hg:∀x,R w (Ex X β H) β H (g x) (a.eval x)){t:TypeId}{x:Operand}(ho:o.op=.load t x)(ht:(T t).k.isNone=false)
 (hok:(nQ H (T t) (g x)).ok):mD P w0 X H β w a o (nQ H (T t) (g x)):=by
 have hx:=hg x;generalize g x=lx at*;generalize hval:a.eval x=vx at hx;unfold nQ at*;have fin:∀(b off:Nat) (us:List Value),vx=.pointer (some ⟨b,off,none⟩)->us.length=(T t).size->((T t).k.agg=false->(T t).size=1)->
  (∀(j:Nat) (u:Value),us[j]? =some u->w.cell? ⟨b,off+j,none⟩=some u)->(execOp a.eval o).run P w=.ok (.value (if(T t).k.agg then .agg us.toArray else us.getD 0 undef)) w:=by
  intro b off us hv hl hs hc;have:=uR (P:=P) (w:=w) hT ht hl hs hc;have hv':=hval.trans hv;simp only[execOp,ho,Instr.loadAt,Instr.sureAddr,hv',Sem.run_bind,Sem.run_pure,Result.andThen_ok,this]
 split at hok
 ·rename_i id off;split at hok
  ·rename_i fz cs hH;simp only[kQ.cond]at hok|-;have hob:=m.obj id;simp only[dO,hH]at hob;obtain⟨b,e,us,hb,hblk,hlen,h1,hp⟩:=hob;cases hx with
   |bx _ _ b' _ _ _ hb'=>
    rw[hb]at hb';injection hb' with hb';subst hb'
    refine mD.plain m (fin b off ((us.drop off).take (T t).size) rfl kG hok.2 (λj u hu=>?_)) (HG hlen.symm h1 hok.1 hok.2 hp);rw[cell_of_row w b _ us.toArray e (0,0) hblk];rw[List.getElem?_take]at hu;split at hu
    ·simpa using hu
    ·cases hu
   |bxdead _ _ _ hd=>rw[hH]at hd;cases hd
  ·exact hok.elim
 ·rename_i cs;simp only[kQ.cond]at hok|-;cases hx with
  |d _ _ hx=>cases hx with
   |ro _ b off us hnb hul h1 hlt hcell hp=>
    refine mD.plain m (fin b off ((us.drop 0).take (T t).size) rfl kG hok.2 (λj u hu=>?_)) (.d _ _ (CR aE (λu hu _=>h1 u (List.mem_of_getElem? hu)) aE hok.2 hp));rw[List.getElem?_take]at hu;split at hu
    ·exact hcell j u (by simpa using hu)
    ·cases hu
 ·rename_i id k j;split at hok
  ·rename_i fz s xs hH;simp only[kQ.cond]at hok|-;obtain⟨hk,hj,hs⟩:=hok;have hob:=m.obj id;simp only[dO,hH]at hob;obtain⟨hpos,hall,hob⟩:=hob;obtain⟨hcl,hcc⟩:=rY hk hall;cases hx with
   |rp _ _ _ b' _ _ _ hH' hb'=>
    rw[hH]at hH';injection hH' with _ e1 e2;subst e1;subst e2
    rcases hob with⟨hn,_⟩|⟨b,e,cur,hb,hblk,hlen,hp⟩
    ·rw[hn]at hb';cases hb'
    ·rw[hb]at hb';injection hb' with hb';subst hb'
     have hks:k*s+s<=xs.length*s:=by have:(k+1)*s<=xs.length*s:=Nat.mul_le_mul_right _ hk;rw[Nat.add_mul,Nat.one_mul]at this;exact this
     have hcs:cur.size=cur.toList.length:=aM;refine mD.plain m (fin b (k*s+j) (((cur.toList.drop (k*s)).drop j).take (T t).size) rfl kG hs (λi u hu=>?_))
      (.d _ _ (CR (us:=cur.toList.drop (k*s)) (by rw[hcl,List.length_drop];omega) (λ{i} u hu hi=>?_) hj hs λi c v hc hv=>?_))
     ·rw[cell_of_row w b _ cur e (0,0) hblk];rw[List.getElem?_take]at hu;split at hu
      ·simpa [Nat.add_assoc]using hu
      ·cases hu
     ·rw[hcl]at hi;rw[List.getElem?_drop]at hu;exact(hp _ _ u (by rw[hcc i hi];exact List.getElem?_eq_getElem aE) (by simpa using hu)).1
     ·have hi:i<s:=by have:=(List.getElem?_eq_some_iff.1 hc).1;omega
      rw[List.getElem?_drop]at hv;exact(hp _ c v (by rw[hcc i hi];exact hc) (by simpa using hv)).2
   |rpdead _ _ _ _ hd=>rw[hH]at hd;cases hd
  ·exact hok.elim
 ·exact hok.elim
theorem zQ(hT:fP P T){t:TypeId}(h:(T t).k.isNone=false){b off:Nat}{v:Value}(hl:v.cells.toList.length=(T t).size)(h1:∀u∈v.cells.toList,u.oneCell'=true)
 {cur:Array Value}{e:TypeId}(hblk:w.heap[b]? =some (.cells cur e (0,0)))(hfit:off+v.cells.toList.length<=cur.size):
 (storeVar t ⟨b,off,none⟩ v).run P w=.ok () (w.setRow b (dI off cur.toList v.cells.toList).toArray):=by
 unfold storeVar;rw[Sem.run_bind,cP hT h];have hl':v.cells.size=(T t).size:=by simpa using hl
 simp only[Result.andThen_ok,hl',ne_eq,not_true_eq_false,if_false];have:=run_storeCells_at P b off e v.cells.toList 0 cur w hblk (by simpa using hfit) h1;simpa [dI]using this
theorem fW{α:Type}{off:Nat}{cs new:List α}(h:off+new.length<=cs.length):(dI off cs new).length=cs.length:=by simp[dI];omega
theorem gL{α:Type}{off:Nat}{cs new:List α}(h:off+new.length<=cs.length)(i:Nat):(dI off cs new)[i]? =if i<off then cs[i]? else if i<off+new.length then new[i-off]? else cs[i]? :=by
 unfold dI;have hl:(cs.take off).length=off:=kG;by_cases h1:i<off
 ·rw[if_pos h1,List.append_assoc,List.getElem?_append_left aE,List.getElem?_take,if_pos h1]
 ·rw[if_neg h1];by_cases h2:i<off+new.length
  ·rw[if_pos h2,List.getElem?_append_left kG,List.getElem?_append_right aE,hl]
  ·rw[if_neg h2,List.getElem?_append_right kG,List.getElem?_drop];congr 1;simp;omega
theorem Dr{α:Type}{off:Nat}{cs new:List α}{p:α->Prop}(h1:∀x∈cs,p x)(h2:∀x∈new,p x):∀x∈dI off cs new,p x:=by
 intro x hx;simp only[dI,List.mem_append]at hx;rcases hx with(hx|hx)|hx
 ·exact h1 x (List.mem_of_mem_take hx)
 ·exact h2 x hx
 ·exact h1 x (List.mem_of_mem_drop hx)
theorem Jq{α γ:Type}{off:Nat}{cs new:List α}{us vs:List γ}{p:α->γ->Prop}(hl:us.length=cs.length)(hn:vs.length=new.length)(hf:off+new.length<=cs.length)
 (h1:∀(i:Nat) c u,cs[i]? =some c->us[i]? =some u->p c u)(h2:∀(i:Nat) c u,new[i]? =some c->vs[i]? =some u->p c u):
 ∀(i:Nat) c u,(dI off cs new)[i]? =some c->(dI off us vs)[i]? =some u->p c u:=by
 intro i c u hc hu;rw[gL hf]at hc;rw[gL aE,hn]at hu;split at hc
 ·rename_i h;rw[if_pos h]at hu;exact h1 i c u hc hu
 ·rename_i h;rw[if_neg h]at hu;split at hc
  ·rename_i h';rw[if_pos h']at hu;exact h2 _ c u hc hu
  ·rename_i h';rw[if_neg h']at hu;exact h1 i c u hc hu
theorem qT{r:kQ}{w':World}{β':Nat->Option Nat}(hr:(execOp a.eval o).run P w=.ok .skip w')(m:dR w0 X (bW H r.up) β' w')(gg:eT X H β w (bW H r.up) β' w')
 (hv:r.v=.junk):mD P w0 X H β w a o r:=by
 intro K Q hK;unfold Oper.wp;rw[hr];exact hK undef w' β' m gg (by rw[hv];exact .junk _)
theorem Jr(hT:fP P T)(m:dR w0 X H β w)(hg:∀x,R w (Ex X β H) β H (g x) (a.eval x)){t:TypeId}{x y:Operand}(ho:o.op=.store t x y)(ht:(T t).k.isNone=false)
 {id off:Nat}(hx:g x=.bx id off){cs:List LV}(hH:H id=.box false cs){c:Prop}(hok:off+(T t).size<=cs.length/\(dV (g y)).length=(T t).size/\iU H (g y)=true):
 mD P w0 X H β w a o ⟨.junk,c,[(id,.box false (dI off cs (dV (g y))))]⟩:=by
 have hxv:=hg x;rw[hx]at hxv;generalize hval:a.eval x=vx at hxv;obtain⟨hk1,hk2,hk3⟩:=hok;obtain⟨hc1,hc2⟩:=(hg y).cells hk3;have hc3:=(hg y).cells1 hk3;have hob:=m.obj id;simp only[dO,hH]at hob;obtain⟨b,e,us,hb,hblk,hlen,h1,hp⟩:=hob;cases hxv with
 |bxdead _ _ _ hd=>rw[hH]at hd;cases hd
 |bx _ _ b' _ _ _ hb'=>
  rw[hb]at hb';injection hb' with hb';subst hb'
  have hrun:=zQ (P:=P) (w:=w) hT ht (b:=b) (off:=off) (v:=a.eval y) aE hc3 hblk (by rw[List.size_toArray];omega);have hfit:off+(dV (g y)).length<=cs.length:=aE;have:=m.rewrite (id:=id) (b:=b) (o':=.box false (dI off cs (dV (g y)))) (cur':=(dI off us (a.eval y).cells.toList).toArray) (by rw[hH];rfl) hb hblk
   (by simp only[List.size_toArray];exact fW aE) (.inl ⟨_,_,hH,rfl⟩) (λ_ hR=>by
     unfold dO;rw[aX];refine⟨b,e,_,hb,setRow_heap w b _ _ e (0,0) hblk,by rw[fW aE,fW hfit];exact hlen,Dr h1 hc3,?_⟩;exact Jq hlen hc1 hfit (λi c v hc hv=>hR _ _ (hp i c v hc hv)) (λi c v hc hv=>hR _ _ (hc2 i c v hc hv)))
  refine qT (w':=w.setRow b (dI off us (a.eval y).cells.toList).toArray) (β':=β) ?_ (by simp only[cD];exact this.1) (by simp only[cD];exact this.2) rfl;simp only[execOp,ho,Instr.storeAt,Instr.sureAddr,hval,Sem.run_bind,Sem.run_pure,Result.andThen_ok,hrun]
theorem TE{s:Nat}{xs:List DV}(hs:∀x∈xs,(aQ x).length=s){k:Nat}(hk:k<xs.length){z:DV}(hz:(aQ z).length=s):bS (xs.set k z)=dI (k*s) (bS xs) (aQ z):=by
 induction xs generalizing k with
 |nil=>simp at hk
 |cons x t ih=>
  have hx:=hs x aM;cases k with
  |zero=>simp[bS,dI,hz,<-hx]
  |succ k=>
   have:=ih (λy hy=>hs y (by simp[hy])) (k:=k) (by simpa using hk);simp only[List.set_cons_succ,bS,List.flatMap_cons]at*;rw[this];unfold dI;have e1:(k+1)*s=(aQ x).length+k*s:=by rw[hx,Nat.add_mul];omega
   rw[e1,List.take_length_add_append,Nat.add_assoc,List.drop_length_add_append];simp
theorem mW:∀(n:Nat) (l:LV) (x:DV),close H n l=some x->∀id∈bR H n l,(H id).live=true:=by
 intro n;induction n with
 |zero=>intro l x h;simp[close]at h
 |succ n ih=>
  intro l x h id hid;have list:∀(cs:List LV) (xs:List DV),cM (cs.map (close H n))=some xs->id∈cs.flatMap (bR H n)->(H id).live=true:=by
   intro cs xs h hid;obtain⟨h1,h2⟩:=kZ h;obtain⟨c,hc,hid⟩:=List.mem_flatMap.1 hid;obtain⟨i,hi,rfl⟩:=List.getElem_of_mem hc;exact ih _ _ (h2 i _ (xs[i]'aE) (List.getElem?_eq_getElem hi) (List.getElem?_eq_getElem aE)) id hid
  cases l with
  |agg cs=>
   simp only[close,Option.map_eq_some_iff]at h;obtain⟨xs,h,_⟩:=h;exact list cs xs h (by simpa [bR]using hid)
  |fn f cs=>
   simp only[close,Option.map_eq_some_iff]at h;obtain⟨xs,h,_⟩:=h;exact list cs xs h (by simpa [bR]using hid)
  |bm f cs=>
   simp only[close,Option.map_eq_some_iff]at h;obtain⟨xs,h,_⟩:=h;exact list cs xs h (by simpa [bR]using hid)
  |ow i k m=>
   simp[bR]at hid;subst hid;simp only[close]at h;cases hH:H id<;>simp_all[bB.live]
  |oc i k m c=>
   simp[bR]at hid;subst hid;simp only[close]at h;cases hH:H id<;>simp_all[bB.live]
  |mp i=>
   simp[bR]at hid;subst hid;simp only[close]at h;cases hH:H id<;>simp_all[bB.live]
  |bx i off=>
   simp only[close]at h;simp only[bR]at hid;cases hH:H i with
   |box fz cs=>
    simp only[hH,Option.map_eq_some_iff]at h;obtain⟨xs,h,_⟩:=h;simp only[hH,List.mem_cons]at hid;rcases hid with rfl|hid
    ·rw[hH];rfl
    ·exact list _ xs h hid
   |_=>simp[hH]at hid
  |_=>simp[bR]at hid
theorem gX(m:dR w0 X H β w){ids:List Nat}{l:LV}{x:DV}{v:Value}(h:close H 8 l=some x)(hsub:∀id∈bR H 8 l,id∈ids)(hr:R w (Ex X β H) β H l v):
 RD w (Ex X β (bW H (bI H ids))) x v:=by
 refine nV m.obj (λ_ _=>(m.freeze ids).2.D) 8 l x v h (λid hid b hb he=>?_) hr;have hl:=mW 8 l x h id hid;have hf:=m.fresh id b hl hb;rcases he with he|⟨i,h1,h2⟩
 ·rcases hf.1 with h1|h1
  ·have:=(m.xold.1 b he).1;omega
  ·exact(m.xold.1 b he).2 h1.1
 ·have h3:(H i).live=true:=by
   have:=bK h1;rw[fF]at this;split at this
   ·rwa[BK]at this
   ·exact this
  have:=m.inj i id b h3 hl h2 hb;subst this;rw[fF,if_pos (hsub i hid),Dm]at h1;cases h1
theorem BM(hT:fP P T)(m:dR w0 X H β w)(hg:∀x,R w (Ex X β H) β H (g x) (a.eval x)){t:TypeId}{x y:Operand}(ho:o.op=.store t x y)(ht:(T t).k.isNone=false)
 {id k j:Nat}(hx:g x=.rp id k j){s:Nat}{xs:List DV}(hH:H id=.row false s xs){z:DV}(hz:close H 8 (g y)=some z){c:Prop}(hid:id∉bR H 8 (g y))(hk:k<xs.length)(hjs:j+(T t).size<=s)
 (hzl:(aQ z).length=(T t).size){z':DV}(hz':(aQ z').length=s)(hcells:aQ z'=dI j (aQ (xs.getD k default)) (aQ z)):
 mD P w0 X H β w a o ⟨.junk,c,(id,.row false s (xs.set k z'))::bI H (bR H 8 (g y))⟩:=by
 have hxv:=hg x;rw[hx]at hxv;generalize hval:a.eval x=vx at hxv;have hH':bW H (bI H (bR H 8 (g y))) id=.row false s xs:=by rw[fF,if_neg hid];exact hH
 obtain⟨m1,g1⟩:=m.freeze (bR H 8 (g y));have hyR:=gX m hz (λ_ h=>h) (hg y);obtain⟨hc1,hc2⟩:=hyR.cells;have hc3:=hyR.cells1;have hob:=m1.obj id;simp only[dO,hH']at hob;obtain⟨hpos,hall,hob⟩:=hob;cases hxv with
 |rpdead _ _ _ _ hd=>rw[hH]at hd;cases hd
 |rp _ _ _ b' _ _ _ hH2 hb'=>
  rw[hH]at hH2;injection hH2 with _ e1 e2;subst e1;subst e2
  rcases hob with⟨hn,_⟩|⟨b,e,cur,hb,hblk,hlen,hp⟩
  ·rw[hn]at hb';cases hb'
  ·rw[hb]at hb';injection hb' with hb';subst hb'
   have hks:k*s+s<=xs.length*s:=by have:(k+1)*s<=xs.length*s:=Nat.mul_le_mul_right _ hk;rw[Nat.add_mul,Nat.one_mul]at this;exact this
   have hrun:=zQ (P:=P) (w:=w) hT ht (b:=b) (off:=k*s+j) (v:=a.eval y) aE hc3 hblk aE;obtain⟨hcl,hcc⟩:=rY hk hall;have hset:bS (xs.set k z')=dI (k*s+j) (bS xs) (aQ z):=by
    have hfl:=flat_len hall;rw[TE hall hk hz',hcells];apply List.ext_getElem?;intro i;have hpl:(dI j (aQ (xs.getD k default)) (aQ z)).length=s:=by rw[fW aE];exact hcl
    have q1:=gL (off:=k*s) (cs:=bS xs) (new:=dI j (aQ (xs.getD k default)) (aQ z)) aE i;have q2:=gL (off:=k*s+j) (cs:=bS xs) (new:=aQ z) aE i;rw[q1,q2,hpl];by_cases h1:i<k*s
    ·rw[if_pos h1,if_pos aE]
    ·rw[if_neg h1];by_cases h2:i<k*s+s
     ·rw[if_pos aE,gL aE];by_cases h3:i<k*s+j
      ·rw[if_pos aE,if_pos h3,<-hcc (i-k*s) aE];congr 1;omega
      ·rw[if_neg aE,if_neg h3];by_cases h4:i<k*s+j+(aQ z).length
       ·rw[if_pos aE,if_pos h4];congr 1;omega
       ·rw[if_neg aE,if_neg h4,<-hcc (i-k*s) aE];congr 1;omega
     ·rw[if_neg aE,if_neg aE,if_neg aE]
   have hcs:cur.toList.length=cur.size:=aM;have hpl:(dI (k*s+j) cur.toList (a.eval y).cells.toList).length=cur.size:=by rw[fW aE];exact hcs
   have hps:(dI (k*s+j) cur.toList (a.eval y).cells.toList).toArray.size=cur.size:=hpl;have:=m1.rewrite (id:=id) (b:=b) (o':=.row false s (xs.set k z')) (cur':=(dI (k*s+j) cur.toList (a.eval y).cells.toList).toArray) (by rw[hH'];rfl) hb hblk
    hps (.inr ⟨s,xs,_,hH',rfl,aM⟩) (λhD _=>by
     unfold dO;rw[aX];refine⟨hpos,λq hq=>?_,.inr ⟨b,e,_,hb,setRow_heap w b _ _ e (0,0) hblk,by rw[hps];simpa using hlen,?_⟩⟩
     ·rcases List.mem_or_eq_of_mem_set hq with hq|rfl
      ·exact hall q hq
      ·exact hz'
     ·rw[hset];intro i d v hd hv;have hfl:=flat_len hall;rw[gL aE]at hd;simp only[List.getElem?_toArray]at hv;rw[gL aE,hc1]at hv;split at hd
      ·rename_i h;rw[if_pos h]at hv;have:=hp i d v hd (by simpa using hv);exact⟨this.1,hD _ _ this.2⟩
      ·rename_i h;rw[if_neg h]at hv;split at hd
       ·rename_i h';rw[if_pos h']at hv;exact⟨hc3 v (List.mem_of_getElem? hv),hD _ _ (hc2 _ d v hd hv)⟩
       ·rename_i h';rw[if_neg h']at hv;have:=hp i d v hd (by simpa using hv);exact⟨this.1,hD _ _ this.2⟩)
   refine qT (w':=w.setRow b (dI (k*s+j) cur.toList (a.eval y).cells.toList).toArray) (β':=β) ?_ (by simp only[pF];exact this.1) (by simp only[pF];exact g1.trans this.2) rfl;simp only[execOp,ho,Instr.storeAt,Instr.sureAddr,hval,Sem.run_bind,Sem.run_pure,Result.andThen_ok,hrun]
theorem TF(hT:fP P T)(m:dR w0 X H β w)(hg:∀x,R w (Ex X β H) β H (g x) (a.eval x)){t:TypeId}{x y:Operand}(ho:o.op=.store t x y)(ht:(T t).k.isNone=false)
 (hok:(iL H (T t) (g x) (g y)).ok):mD P w0 X H β w a o (iL H (T t) (g x) (g y)):=by
 cases hx:g x with
 |bx id off=>
  rw[hx]at hok;simp only[iL]at hok|-;cases hH:H id with
  |box fz cs=>cases fz with
   |false=>rw[hH]at hok;exact Jr hT m hg ho ht hx hH hok
   |true=>rw[hH]at hok;exact hok.elim
  |_=>rw[hH]at hok;exact hok.elim
 |rp id k j=>
  rw[hx]at hok;simp only[iL]at hok|-;cases hH:H id with
  |row fz s xs=>cases fz with
   |false=>
    rw[hH]at hok;simp only at hok|-;cases hz:close H 8 (g y)with
    |none=>rw[hz]at hok;exact hok.elim
    |some z=>
     rw[hz]at hok;simp only at hok|-;have hob:=m.obj id;simp only[dO,hH]at hob;obtain⟨hpos,hall,_⟩:=hob;by_cases hj:j=0/\(T t).size=s
     ·rw[if_pos hj]at hok|-;obtain⟨h1,h2,h3⟩:=hok;obtain⟨hcl,_⟩:=rY h1 hall;obtain⟨hj0,hjs⟩:=hj;subst hj0;refine BM hT m hg ho ht hx hH hz h3 h1 aE aE h2 ?_;unfold dI;rw[List.drop_eq_nil_of_le aE];simp
     ·rw[if_neg hj]at hok|-;obtain⟨h1,h2,h3,h4,h5⟩:=hok;obtain⟨hcl,_⟩:=rY h1 hall;exact BM hT m hg ho ht hx hH hz h5 h1 h2 h3 (by show(dI j (aQ (xs.getD k default)) (aQ z)).length=s;rw[fW aE];exact hcl) rfl
   |true=>rw[hH]at hok;exact hok.elim
  |_=>rw[hH]at hok;exact hok.elim
 |_=>rw[hx]at hok;exact hok.elim
end
end
section
open Go.RowKit
section
variable{P:Program} {T:TypeId->fE} {w0:cX} {X:Nat->Prop} {H:Nat->bB} {β:Nat->Option Nat} {w:World} {a:Act} {o:Oper} {g:Operand->LV} {E:Nat->Prop}
theorem eG{α γ:Type}{f:α->γ}{l:List α}{i:Nat}{y:γ}(h:(l.map f)[i]? =some y):∃x,l[i]? =some x/\f x=y:=by
 rw[List.getElem?_map,Option.map_eq_some_iff]at h;exact h
theorem RD.ro_drop{cs:List DV}{b off k:Nat}(h:RD w E (.ro cs) (.pointer (some ⟨b,off,none⟩))):RD w E (.ro (cs.drop k)) (.pointer (some ⟨b,off+k,none⟩)):=by
 cases h with
 |ro _ _ _ us hb hul h1 hlt hcell hp=>
  refine .ro (cs.drop k) b (off+k) (us.drop k) hb (by simp[hul]) (λu hu=>h1 u (List.mem_of_mem_drop hu)) hlt (λj u hu=>?_) λi d v hd hv=>?_
  ·rw[List.getElem?_drop]at hu;have:=hcell (k+j) u hu
   rwa[Nat.add_assoc]
  ·rw[List.getElem?_drop]at hd hv;exact hp _ d v hd hv
theorem RD.ro_form{cs:List DV}{v:Value}(h:RD w E (.ro cs) v):∃b off,v=.pointer (some ⟨b,off,none⟩):=by cases h;exact⟨_,_,rfl⟩
theorem TG(hT:fP P T)(m:dR w0 X H β w)(hg:∀x,R w (Ex X β H) β H (g x) (a.eval x)){s:TypeId}{x:Operand}{f:Nat}(ho:o.op=.fieldAddr s x f)
 (ht:∀fs,(T s).k=.struct fs->∀p∈fs,(T p.2).k.isNone=false)(hok:(lI T H s (g x) f).ok):mD P w0 X H β w a o (lI T H s (g x) f):=by
 have hx:=hg x;generalize g x=lx at*;generalize hval:a.eval x=vx at hx;unfold lI at*;split at hok
 ·rename_i fs hk;obtain⟨fa,hu,hm⟩:=hT.struct hk;split at hok
  ·rename_i off ty hf;rw[<-hm]at hf;obtain⟨fl,hfl,hfe⟩:=eG hf;injection hfe with e1 e2
   have hty:(T ty).k.isNone=false:=ht fs hk (off,ty) (by rw[<-hm];exact List.mem_of_getElem? hf);have hrun:∀b o',vx=.pointer (some ⟨b,o',none⟩)->(T ty).size≠0->(execOp a.eval o).run P w=.ok (.value (.pointer (some ⟨b,o'+off,none⟩))) w:=by
    intro b o' hv hsz;have hfl':fa[f]? =some fl:=by simpa using hfl
    have hso:=cP (P:=P) (w:=w) hT hty;rw[hv]at hval;simp[execOp,ho,Instr.fieldAt,run_underlying hu,hfl',Instr.sureAddr,hval,fieldPlace,e2,hso,hsz,e1,Addr.add_lit]
   split at hok
   ·rename_i id o';simp only[kQ.cond]at hok|-;cases hx with
    |bx _ _ b fz cs hH hb=>exact mD.plain m (hrun b o' rfl hok.1) (.bx id (o'+off) b fz cs hH hb)
    |bxdead _ _ _ hd=>rw[hd]at hok;exact absurd hok.2 (by simp[bB.live])
   ·rename_i id k j;simp only[kQ.cond]at hok|-;cases hx with
    |rp _ _ _ b fz s' xs hH hb=>
     have:=hrun b (k*s'+j) rfl hok.1;rw[Nat.add_assoc]at this;exact mD.plain m this (.rp id k (j+off) b fz s' xs hH hb)
    |rpdead _ _ _ _ hd=>rw[hd]at hok;exact absurd hok.2 (by simp[bB.live])
   ·rename_i cs;simp only[kQ.cond]at hok|-;cases hx with
    |d _ _ hx=>
     obtain⟨b,o',rfl⟩:=hx.ro_form;exact mD.plain m (hrun b o' rfl hok) (.d _ _ hx.ro_drop)
   ·exact hok.elim
  ·exact hok.elim
 ·exact hok.elim
theorem Dt(hT:fP P T){t:TypeId}(h:(T t).k.isNone=false){cs:List Value}{off:Nat}(hle:off+(T t).size<=cs.length)(hs:(T t).k.agg=false->(T t).size=1):
 (part t cs.toArray off).run P w=.ok (if(T t).k.agg then .agg ((cs.drop off).take (T t).size).toArray else((cs.drop off).take (T t).size).getD 0 undef) w:=by
 unfold part;rw[Sem.run_bind,FV hT h];simp only[Result.andThen_ok];cases e:(T t).k.agg
 ·have:=hs e;have h1:off<cs.length:=aE;simp[this,h1,List.getD_eq_getElem?_getD,List.getElem?_drop]
 ·simp[cP hT h]
theorem Xr(hT:fP P T)(m:dR w0 X H β w)(hg:∀x,R w (Ex X β H) β H (g x) (a.eval x)){s:TypeId}{x:Operand}{f:Nat}(ho:o.op=.field s x f)
 (ht:∀fs,(T s).k=.struct fs->∀p∈fs,(T p.2).k.isNone=false)(hok:(uN T s (g x) f).ok):mD P w0 X H β w a o (uN T s (g x) f):=by
 have hx:=hg x;generalize g x=lx at*;generalize hval:a.eval x=vx at hx;unfold uN at*;split at hok
 ·rename_i fs hk;obtain⟨fa,hu,hm⟩:=hT.struct hk;split at hok
  ·rename_i off ty hf;rw[<-hm]at hf;obtain⟨fl,hfl,hfe⟩:=eG hf;injection hfe with e1 e2
   have hty:(T ty).k.isNone=false:=ht fs hk (off,ty) (by rw[<-hm];exact List.mem_of_getElem? hf);have hfl':fa[f]? =some fl:=by simpa using hfl
   split at hok
   ·rename_i cs;simp only[kQ.cond]at hok|-;cases hx with
    |d _ _ hx=>cases hx with
     |agg _ vs hl h1 hp=>
      refine mD.plain m ?_ (.d _ _ (CR (us:=vs) aE (λu hu _=>h1 u (List.mem_of_getElem? hu)) hok.1 hok.2 hp));have hrp:=Dt (P:=P) (w:=w) hT hty (cs:=vs) (off:=off) aE hok.2;simp only[execOp,ho,Instr.field,Sem.run_bind,run_underlying hu,Result.andThen_ok,hfl',hval,asAgg,Sem.run_pure,e1,e2,hrp]
   ·rename_i cs;simp only[kQ.cond]at hok|-;cases hx with
    |agg _ vs hl h1 hp=>
     refine mD.plain m ?_ (HG (us:=vs) aE h1 hok.1 hok.2 hp);have hrp:=Dt (P:=P) (w:=w) hT hty (cs:=vs) (off:=off) aE hok.2;simp only[execOp,ho,Instr.field,Sem.run_bind,run_underlying hu,Result.andThen_ok,hfl',hval,asAgg,Sem.run_pure,e1,e2,hrp]
   ·exact hok.elim
  ·exact hok.elim
 ·exact hok.elim
theorem RD.sl_at{xs:List DV}{v:Value}(h:RD w E (.sl xs) v){i:Nat}(hi:i<xs.length){s:Nat}(hs:(aQ (xs.getD i default)).length=s):
 ∃b off c,v=.slice (some ⟨b,off,none⟩) xs.length c/\RD w E (.ro (aQ (xs.getD i default))) (.pointer (some ⟨b,off+i*s,none⟩)):=by
 cases h with
 |sl0=>simp at hi
 |sl _ b off c size us hx hb hall hlen hc hul h1 hlt hcell hp=>
  obtain⟨hcl,hcc⟩:=rY hi hall;have hss:s=size:=by rw[<-hs,hcl]
  subst hss;have hks:i*s+s<=xs.length*s:=by have:(i+1)*s<=xs.length*s:=Nat.mul_le_mul_right _ hi;rw[Nat.add_mul,Nat.one_mul]at this;exact this
  refine⟨b,off,c,rfl,.ro _ b (off+i*s) ((us.drop (i*s)).take s) hb (by rw[List.length_take,List.length_drop,hcl];omega) (λu hu=>h1 u (List.mem_of_mem_drop (List.mem_of_mem_take hu))) hlt (λj u hu=>?_) λj d v hd hv=>?_⟩
  ·rw[List.getElem?_take]at hu;split at hu
   ·rw[List.getElem?_drop]at hu;have:=hcell _ u hu
    rwa[Nat.add_assoc]
   ·cases hu
  ·rw[List.getElem?_take]at hv;split at hv
   ·rename_i hj;rw[List.getElem?_drop]at hv;exact hp _ d v (by rw[hcc j hj];exact hd) hv
   ·cases hv
theorem HH(hT:fP P T)(m:dR w0 X H β w)(hg:∀x,R w (Ex X β H) β H (g x) (a.eval x)){t:TypeId}{x i:Operand}(ho:o.op=.indexAddr t x i)
 (ht:∀e,(T t).k=.slice e\/(∃n,(T t).k=.arr n e)->(T e).k.isNone=false)(hok:(fJ T H t (g x) (g i)).ok):mD P w0 X H β w a o (fJ T H t (g x) (g i)):=by
 have hx:=hg x;have hi:=hg i;generalize g x=lx at*;generalize g i=li at*;generalize hval:a.eval x=vx at hx;generalize hvi:a.eval i=vi at hi;unfold fJ at*;split at hok
 ·rename_i e xs k i' hk;simp only[kQ.cond]at hok|-;obtain⟨h0,h1,h2⟩:=hok;have:=hi.int;subst this;have hu:=hT.slice hk;have hso:=cP (P:=P) (w:=w) hT (ht e (.inl hk));cases hx with
  |d _ _ hx=>
   obtain⟨b,off,c,hv,hr⟩:=hx.sl_at (i:=i'.toNat) aE h2;subst hv;refine mD.plain m ?_ (.d _ _ hr);simp[execOp,ho,Instr.indexAt,hval,hvi,asIntOf,run_underlying hu,hso,h0,h1,Addr.add_lit]
 ·rename_i e id k n kk i' hk;split at hok
  ·rename_i fz s xs hH;simp only[kQ.cond]at hok|-;obtain⟨h0,h1,h2⟩:=hok;have:=hi.int;subst this;have hu:=hT.slice hk;have hso:=cP (P:=P) (w:=w) hT (ht e (.inl hk));cases hx with
   |ow _ _ _ b c _ _ _ cur e' hH' hb=>
    rw[hH]at hH';injection hH' with _ e1 e2;subst e1;subst e2
    have hr:R w (Ex X β H) β H (.rp id (k+i'.toNat) 0) (.pointer (some ⟨b,k*s+i'.toNat*s,none⟩)):=by
     have:=R.rp (w:=w) (E:=Ex X β H) (β:=β) (H:=H) id (k+i'.toNat) 0 b fz s xs hH hb
     rwa[Nat.add_mul,Nat.add_zero]at this
    refine mD.plain m ?_ hr;simp[execOp,ho,Instr.indexAt,hval,hvi,asIntOf,run_underlying hu,hso,h0,h1,Addr.add_lit,h2]
   |ow0=>omega
   |owdead _ _ _ _ hd=>rw[hH]at hd;cases hd
  ·exact hok.elim
 ·rename_i e id k n c kk i' hk;split at hok
  ·rename_i fz s xs hH;simp only[kQ.cond]at hok|-;obtain⟨h0,h1,h2⟩:=hok;have:=hi.int;subst this;have hu:=hT.slice hk;have hso:=cP (P:=P) (w:=w) hT (ht e (.inl hk));cases hx with
   |oc _ _ _ _ p _ _ _ hH' hn hkc hc ha=>
    rw[hH]at hH';injection hH' with _ e1 e2;subst e1;subst e2
    rcases ha with ha|⟨b,hb,rfl⟩
    ·omega
    have hr:R w (Ex X β H) β H (.rp id (k+i'.toNat) 0) (.pointer (some ⟨b,k*s+i'.toNat*s,none⟩)):=by
     have:=R.rp (w:=w) (E:=Ex X β H) (β:=β) (H:=H) id (k+i'.toNat) 0 b fz s xs hH hb
     rwa[Nat.add_mul,Nat.add_zero]at this
    refine mD.plain m ?_ hr;simp[execOp,ho,Instr.indexAt,hval,hvi,asIntOf,run_underlying hu,hso,h0,h1,Addr.add_lit,h2]
   |ocdead _ _ _ _ _ hd=>rw[hH]at hd;cases hd
  ·exact hok.elim
 ·rename_i n e id off kk i' hk;simp only[kQ.cond]at hok|-;obtain⟨h0,h1,h2⟩:=hok;have:=hi.int;subst this;have hu:=hT.arr hk;have hso:=cP (P:=P) (w:=w) hT (ht e (.inr ⟨n,hk⟩));cases hx with
  |bx _ _ b fz cs hH hb=>
   refine mD.plain m ?_ (.bx id _ b fz cs hH hb);simp[execOp,ho,Instr.indexAt,hval,hvi,asIntOf,run_underlying hu,hso,h0,h1,Addr.add_lit,Instr.sureAddr]
  |bxdead _ _ _ hd=>rw[hd]at h2;exact absurd h2 (by simp[bB.live])
 ·rename_i n e id k j kk i' hk;simp only[kQ.cond]at hok|-;obtain⟨h0,h1,h2⟩:=hok;have:=hi.int;subst this;have hu:=hT.arr hk;have hso:=cP (P:=P) (w:=w) hT (ht e (.inr ⟨n,hk⟩));cases hx with
  |rp _ _ _ b fz s xs hH hb=>
   have hr:R w (Ex X β H) β H (.rp id k (j+i'.toNat*(T e).size)) (.pointer (some ⟨b,k*s+j+i'.toNat*(T e).size,none⟩)):=by
    have:=R.rp (w:=w) (E:=Ex X β H) (β:=β) (H:=H) id k (j+i'.toNat*(T e).size) b fz s xs hH hb
    rwa[<-Nat.add_assoc]at this
   refine mD.plain m ?_ hr;simp[execOp,ho,Instr.indexAt,hval,hvi,asIntOf,run_underlying hu,hso,h0,h1,Addr.add_lit,Instr.sureAddr]
  |rpdead _ _ _ _ hd=>rw[hd]at h2;exact absurd h2 (by simp[bB.live])
 ·rename_i n e cs kk i' hk;simp only[kQ.cond]at hok|-;obtain⟨h0,h1⟩:=hok;have:=hi.int;subst this;have hu:=hT.arr hk;have hso:=cP (P:=P) (w:=w) hT (ht e (.inr ⟨n,hk⟩));cases hx with
  |d _ _ hx=>
   obtain⟨b,off,rfl⟩:=hx.ro_form;refine mD.plain m ?_ (.d _ _ (hx.ro_drop (k:=i'.toNat*(T e).size)));simp[execOp,ho,Instr.indexAt,hval,hvi,asIntOf,run_underlying hu,hso,h0,h1,Addr.add_lit,Instr.sureAddr]
 ·exact hok.elim
theorem TH(hT:fP P T)(m:dR w0 X H β w)(hg:∀x,R w (Ex X β H) β H (g x) (a.eval x)){t:TypeId}{x i:Operand}(ho:o.op=.index t x i)
 (ht:∀e n,(T t).k=.arr n e->(T e).k.isNone=false)(hok:(aZ T t (g x) (g i)).ok):mD P w0 X H β w a o (aZ T t (g x) (g i)):=by
 have hx:=hg x;have hi:=hg i;generalize g x=lx at*;generalize g i=li at*;generalize hval:a.eval x=vx at hx;generalize hvi:a.eval i=vi at hi;unfold aZ at*;split at hok
 ·rename_i s kk i' hk;simp only[kQ.cond]at hok|-;obtain⟨h0,h1⟩:=hok;have:=hi.int;subst this;have:=hx.str;subst this;have hu:=hT.str hk;have hlt:i'.toNat<s.length:=aE;refine mD.plain m (v:=.int .u8 (s.getD i'.toNat 0).toNat) ?_ (dF _ _);have hb:(⟨s.toArray⟩:ByteArray)[i'.toNat]? =some (s.getD i'.toNat 0):=by
   have:i'.toNat<(⟨s.toArray⟩:ByteArray).size:=by simpa [ByteArray.size]using hlt
   rw[getElem?_pos (⟨s.toArray⟩:ByteArray) i'.toNat this];simp[List.getD_eq_getElem?_getD,hlt];rfl
  simp only[execOp,ho,Instr.index,hval,hvi,asIntOf,Sem.run_bind,Sem.run_pure,Result.andThen_ok,run_underlying hu,h0,if_true,hb]
 ·rename_i n e cs kk i' hk;simp only[kQ.cond]at hok|-;obtain⟨h0,h1,h2,h3⟩:=hok;have:=hi.int;subst this;have hu:=hT.arr hk;have hte:=ht e n hk;have hso:=cP (P:=P) (w:=w) hT hte;cases hx with
  |d _ _ hx=>cases hx with
   |agg _ vs hl h1' hp=>
    refine mD.plain m ?_ (.d _ _ (CR (us:=vs) aE (λu hu _=>h1' u (List.mem_of_getElem? hu)) h2 h3 hp));have hrp:=Dt (P:=P) (w:=w) hT hte (cs:=vs) (off:=i'.toNat*(T e).size) aE h3;simp only[execOp,ho,Instr.index,hval,hvi,asIntOf,Sem.run_bind,Sem.run_pure,Result.andThen_ok,run_underlying hu,h0,h1,and_self,if_true,hso,hrp]
 ·exact hok.elim
theorem dX{lo:Option Operand}{d:Int}{l:Int}(hg:∀x,R w (Ex X β H) β H (g x) (a.eval x))(h:jA d (lo.map g)=some l):
 (lo=none/\l=d)\/∃x k,lo=some x/\a.eval x=.int k l:=by
 cases lo with
 |none=>left;simp[jA]at h;exact⟨rfl,h.symm⟩
 |some x=>
  right;have hx:=hg x;simp only[Option.map_some]at h;unfold jA at h;split at h
  ·rename_i heq;cases heq
  ·rename_i k i heq;injection heq with heq
   injection h with h
   subst h;rw[heq]at hx;exact⟨x,_,rfl,hx.int⟩
  ·cases h
theorem sZ(isSlice:Bool)(len cap:Nat){lo hi:Option Operand}{l h:Int}(hl:(lo=none/\l=0)\/∃x k,lo=some x/\a.eval x=.int k l)(hh:(hi=none/\h=len)\/∃x k,hi=some x/\a.eval x=.int k h)
 (h0:0<=l)(h1:l<=h)(h2:h<=cap):(Instr.sliceBounds isSlice len cap (lo.map a.eval) (hi.map a.eval) none).run P w=.ok (l.toNat,h.toNat,cap) w:=by
 unfold Instr.sliceBounds;have b1:∀k c,(Instr.sliceBound (.int k h) cap c).run P w=.ok h.toNat w:=λk c=>run_sliceBound w k h cap c aE h2;have b2:∀k c,(Instr.sliceBound (.int k l) h.toNat c).run P w=.ok l.toNat w:=λk c=>run_sliceBound w k l h.toNat c h0 aE;rcases hh with⟨rfl,rfl⟩|⟨x,k,rfl,hx⟩<;>rcases hl with⟨rfl,rfl⟩|⟨y,k',rfl,hy⟩
 ·simp
 ·simp at b2;simp[hy,b2]
 ·simp[hx,b1]
 ·simp[hx,hy,b1,b2]
theorem RD.sl_cut{xs:List DV}{a:Option Addr}{n c s l h:Nat}(hr:RD w E (.sl xs) (.slice a n c))(hs:∀x∈xs,(aQ x).length=s)(hlh:l<=h)(hh:h<=xs.length):
 RD w E (.sl ((xs.take h).drop l)) (.slice (if c=l then a else a.map (·.add (l*s))) (h-l) (c-l)):=by
 have hlen:((xs.take h).drop l).length=h-l:=kG;cases hr with
 |sl0 _ _ hc=>
  simp at hh;subst hh;have:l=0:=aE;subst this;simp;exact .sl0 _ _ hc
 |sl _ b off _ size us hx hb hall hlen' hc hul h1 hlt hcell hp=>
  rcases Nat.eq_zero_or_pos (h-l)with hz|hz
  ·have:(xs.take h).drop l=[]:=List.eq_nil_of_length_eq_zero aE;rw[this,hz];exact .sl0 _ _ aE
  ·have hss:s=size:=by
    have h3:=hs (xs[0]'aE) (List.getElem_mem _);have h4:=hall (xs[0]'aE) (List.getElem_mem _);omega
   subst hss;have e1:l*s+(h-l)*s=h*s:=by rw[<-Nat.add_mul];congr 1;omega
   have e2:h*s<=xs.length*s:=Nat.mul_le_mul_right _ hh;have hall':∀x∈(xs.take h).drop l,(aQ x).length=s:=λx hx=>hall x (List.mem_of_mem_take (List.mem_of_mem_drop hx));rw[if_neg aE];simp only[Option.map_some,Addr.add_lit];have hfin:=RD.sl (w:=w) (E:=E) ((xs.take h).drop l) b (off+l*s) (c-l) s ((us.take (h*s)).drop (l*s)) (by intro hh;rw[hh]at hlen;simp at hlen;omega) hb hall' aE aE
    (by rw[hlen,List.length_drop,List.length_take];omega) (λu hu=>h1 u (List.mem_of_mem_take (List.mem_of_mem_drop hu))) hlt (λj u hu=>?_) (λi d v hd hv=>?_)
   ·rw[hlen]at hfin;exact hfin
   ·rw[List.getElem?_drop,List.getElem?_take]at hu;split at hu
    ·have:=hcell _ u hu;rwa[Nat.add_assoc]
    ·cases hu
   ·rw[wS (λx hx=>hall x (List.mem_of_mem_take hx)),jS hall,List.getElem?_drop,List.getElem?_take]at hd;rw[List.getElem?_drop,List.getElem?_take]at hv;split at hd
    ·rename_i hi;rw[if_pos hi]at hv;exact hp _ d v hd hv
    ·cases hd
theorem pO(hT:fP P T){t e:TypeId}(hk:(T t).k=.slice e)(he:(T e).k.isNone=false){b:Option Addr}{n c:Nat}{lo hi:Option Operand}{l h:Int}
 (hl:(lo=none/\l=0)\/∃x k,lo=some x/\a.eval x=.int k l)(hh:(hi=none/\h=n)\/∃x k,hi=some x/\a.eval x=.int k h)(h0:0<=l)(h1:l<=h)(h2:h<=c):
 (Instr.sliceAt t (.slice b n c) (lo.map a.eval) (hi.map a.eval) none).run P w=.ok (.slice (if c=l.toNat then b else b.map (·.add (l.toNat*(T e).size))) (h.toNat-l.toNat) (c-l.toNat)) w:=by
 have hu:=hT.slice hk;have hso:=cP (P:=P) (w:=w) hT he;have hb:=sZ (P:=P) (w:=w) (a:=a) true n c hl hh h0 h1 h2;simp only[Instr.sliceAt,Instr.slice,Sem.run_bind,run_underlying hu,Result.andThen_ok,hb,hso,Sem.run_pure]
theorem Mt(hT:fP P T){t e:TypeId}(hk:(T t).k=.slice e)(he:(T e).k.isNone=false){b:Option Addr}{n c:Nat}{lo hi:Option Operand}{mx:Operand}{l h m:Int}{km:IntKind}
 (hl:(lo=none/\l=0)\/∃x k,lo=some x/\a.eval x=.int k l)(hh:(hi=none/\h=n)\/∃x k,hi=some x/\a.eval x=.int k h)(hm:a.eval mx=.int km m)(h0:l=0/\h=0/\m=0):
 ∃b',(Instr.sliceAt t (.slice b n c) (lo.map a.eval) (hi.map a.eval) ((some mx).map a.eval)).run P w=.ok (.slice b' 0 0) w\/(hi=none):=by
 have hu:=hT.slice hk;have hso:=cP (P:=P) (w:=w) hT he;obtain⟨rfl,rfl,rfl⟩:=h0;rcases hh with⟨rfl,hh⟩|⟨x,k,rfl,hx⟩
 ·exact⟨none,.inr rfl⟩
 ·have b1:∀k y c,(Instr.sliceBound (.int k 0) y c).run P w=.ok 0 w:=λk y c=>run_sliceBound w k 0 y c (Int.le_refl _) aE;refine⟨b,.inl ?_⟩;rcases hl with⟨rfl,_⟩|⟨y,k',rfl,hy⟩
  ·simp[Instr.sliceAt,Instr.slice,Instr.sliceBounds,run_underlying hu,hx,hm,b1,hso]
  ·simp[Instr.sliceAt,Instr.slice,Instr.sliceBounds,run_underlying hu,hx,hm,hy,b1,hso]
theorem Du:∀(n s:Nat) (cs:List DV),(kR n s cs).length=n
 |0,_,_=>rfl
 |n+1,s,cs=>by simp[kR,Du n s]
theorem BN{s:Nat}:∀{n:Nat} {cs:List DV},n*s<=cs.length->bS (kR n s cs)=cs.take (n*s)
 |0,_,_=>by simp[kR,bS]
 |n+1,cs,h=>by
  have e:(n+1)*s=s+n*s:=by rw[Nat.add_mul];omega
  have ih:=BN (s:=s) (n:=n) (cs:=cs.drop s) (by rw[List.length_drop];omega);unfold bS at ih|-;rw[kR,List.flatMap_cons,ih,e,List.take_add];rfl
theorem BO{s:Nat}:∀{n:Nat} {cs:List DV},n*s<=cs.length->∀x∈kR n s cs,(aQ x).length=s
 |0,_,_=>by simp[kR]
 |n+1,cs,h=>by
  have e:(n+1)*s=s+n*s:=by rw[Nat.add_mul];omega
  intro x hx;rw[kR]at hx;rcases List.mem_cons.1 hx with rfl|hx
  ·show(cs.take s).length=s;rw[List.length_take];omega
  ·exact BO (cs:=cs.drop s) (by rw[List.length_drop];omega) x hx
theorem Xs{E:Nat->Prop}{x d:DV}{v:Value}(h:RD w E x v)(hv:v.oneCell'=true)(hc:aQ x=[d]):RD w E d v:=by
 cases x with
 |agg cs=>cases h;simp[Value.oneCell']at hv
 |_=>simp only[aQ,List.cons.injEq,and_true]at hc;subst hc;exact h
theorem TI{l:List DV}(h:∀x∈l,(aQ x).length=1):∀{i:Nat} {d:DV},(bS l)[i]? =some d->∃x,l[i]? =some x/\aQ x=[d]:=by
 induction l with
 |nil=>intro i d hd;simp[bS]at hd
 |cons x r ih=>
  intro i d hd;have hx:=h x (List.mem_cons_self ..);obtain⟨c,hc⟩:=List.length_eq_one_iff.1 hx;rw[bS,List.flatMap_cons,hc]at hd;cases i with
  |zero=>simp at hd;subst hd;exact⟨x,rfl,hc⟩
  |succ i=>
   simp at hd;exact ih (λy hy=>h y (List.mem_cons_of_mem _ hy)) hd
theorem TJ(hT:fP P T)(m:dR w0 X H β w)(hg:∀x,R w (Ex X β H) β H (g x) (a.eval x)){t:TypeId}{x:Operand}{lo hi mx:Option Operand}(ho:o.op=.slice t x lo hi mx)
 (ht:∀e,(T t).k=.slice e->(T e).k.isNone=false)(hmx:mx.isSome=true->hi.isSome=true)(hok:(lJ T H t (g x) (lo.map g) (hi.map g) (mx.map g)).ok):mD P w0 X H β w a o (lJ T H t (g x) (lo.map g) (hi.map g) (mx.map g)):=by
 have hx:=hg x;generalize g x=lx at*;generalize hval:a.eval x=vx at hx;have three:∀{e:TypeId} {b:Option Addr} {n c:Nat} {l h m':Int} {k:IntKind},(T t).k=.slice e->vx=.slice b n c->jA 0 (lo.map g)=some l->jA n (hi.map g)=some h->mx.map g=some (.d (.int k m'))->(l=0/\h=0/\m'=0)->
  mD P w0 X H β w a o ⟨.nl,l=0/\h=0/\m'=0,[]⟩:=by
  intro e b n c l h m' k hk hv h1 h2 h3 h4;obtain⟨mm,hmm,hgm⟩:=Option.map_eq_some_iff.1 h3;have hvm:=hg mm;rw[hgm]at hvm;obtain⟨b',hr|hr⟩:=Mt (P:=P) (w:=w) (a:=a) (b:=b) (n:=n) (c:=c) hT hk (ht e hk) (dX hg h1) (dX hg h2) hvm.int h4
  ·refine mD.plain m (v:=.slice b' 0 0) ?_ (.nl _);rw[hmm]at ho;simp only[execOp,ho,hval,hv,Sem.run_bind,hr,Result.andThen_ok,Sem.run_pure]
  ·have:=hmx (by rw[hmm];rfl);rw[hr]at this;cases this
 unfold lJ at*;split at hok
 ·rename_i s hk;split at hok
  ·rename_i l h e1 e2 e3;simp only[kQ.cond]at hok|-;obtain⟨h0,h1,h2⟩:=hok;have:=hx.str;subst this;have hu:=hT.str hk;have hmx':mx=none:=by simpa using e3
   have hb:=sZ (P:=P) (w:=w) (a:=a) false s.length s.length (dX hg e1) (dX hg e2) h0 h1 h2;refine mD.plain m (v:=.string ⟨((s.take h.toNat).drop l.toNat).toArray⟩) ?_ (wT _);have hsz:(⟨s.toArray⟩:ByteArray).size=s.length:=by simp[ByteArray.size]
   have hex:(⟨s.toArray⟩:ByteArray).extract l.toNat h.toNat=⟨((s.take h.toNat).drop l.toNat).toArray⟩:=by
    apply ByteArray.ext;simp[ByteArray.data_extract,List.drop_take]
   simp[execOp,ho,hval,hmx',Instr.sliceAt,Instr.slice,run_underlying hu,hsz,hb,hex]
  ·exact hok.elim
 ·rename_i e xs hk;split at hok
  ·rename_i l h e1 e2 e3;simp only[kQ.cond]at hok|-;obtain⟨h0,h1,h2,h3⟩:=hok;have hmx':mx=none:=by simpa using e3
   subst hmx';cases hx with
   |d _ _ hx=>
    have hform:∃b c,vx=.slice b xs.length c/\xs.length<=c:=by cases hx with
     |sl0 a c hc=>exact⟨a,c,rfl,Nat.zero_le _⟩
     |sl _ b off c _ _ _ _ _ hlen=>exact⟨_,c,rfl,hlen⟩
    obtain⟨b,c,rfl,hlc⟩:=hform;have hr:=pO (P:=P) (w:=w) (a:=a) (b:=b) (n:=xs.length) (c:=c) hT hk (ht e hk) (dX hg e1) (dX hg e2) h0 h1 aE;refine mD.plain m ?_ (.d _ _ (hx.sl_cut h3 (l:=l.toNat) (h:=h.toNat) aE aE));simp only[execOp,ho,hval,Option.map_none,Sem.run_bind,hr,Result.andThen_ok,Sem.run_pure]
  ·rename_i l h k m' e1 e2 e3;simp only[kQ.cond]at hok|-;cases hx with
   |d _ _ hx=>
    have hform:∃b c,vx=.slice b xs.length c:=by cases hx with
     |sl0 a c hc=>exact⟨a,c,rfl⟩
     |sl _ b off c _ _ _ _ _ hlen=>exact⟨_,c,rfl⟩
    obtain⟨b,c,rfl⟩:=hform;exact three hk rfl e1 e2 e3 hok
  ·exact hok.elim
 ·rename_i e id k n hk;split at hok
  ·rename_i fz s xs hH;split at hok
   ·rename_i l h e1 e2 e3;simp only[kQ.cond]at hok|-;obtain⟨h0,h1,h2,h3⟩:=hok;have hmx':mx=none:=by simpa using e3
    subst hmx';have hob:=m.obj id;simp only[dO,hH]at hob;obtain⟨hpos,hall,hob⟩:=hob;cases hx with
    |ow _ _ _ b c _ _ _ cur e' hH' hb hkn hn hc hblk hroom=>
     rw[hH]at hH';injection hH' with _ q1 q2;subst q1;subst q2
     have hcap:xs.length<=k+c:=by
      rcases hob with⟨hnone,_⟩|⟨b',e'',cur',hb',hblk',hlen',_⟩
      ·rw[hnone]at hb;cases hb
      ·rw[hb]at hb';injection hb' with hb';subst hb'
       rw[hblk]at hblk';injection hblk' with hblk';injection hblk' with p1 p2;subst p1
       rw[<-hroom]at hlen';exact Nat.le_of_mul_le_mul_right hlen' hpos
     have hr:=pO (P:=P) (w:=w) (a:=a) (b:=some ⟨b,k*s,none⟩) (n:=n) (c:=c) hT hk (ht e hk) (dX hg e1) (dX hg e2) h0 h1 aE;have hrR:R w (Ex X β H) β H (.ow id (k+l.toNat) (h-l).toNat) (.slice (if c=l.toNat then some ⟨b,k*s,none⟩else(some (⟨b,k*s,none⟩:Addr)).map (·.add (l.toNat*(T e).size))) (h.toNat-l.toNat) (c-l.toNat)):=by
      have ehl:(h-l).toNat=h.toNat-l.toNat:=aE;by_cases hcl:c=l.toNat
      ·rw[if_pos hcl,ehl];have e1:h.toNat-l.toNat=0:=aE;have e2:c-l.toNat=0:=aE;rw[e1,e2];refine .ow0 id _ _ fz s xs hH (.inr ⟨b,cur,e',hb,hblk,?_,aE⟩);rw[<-hroom,hcl]
      ·rw[if_neg hcl,ehl];simp only[Option.map_some,Addr.add_lit];rw[<-h3,<-Nat.add_mul];refine .ow id (k+l.toNat) _ b _ fz s xs cur e' hH hb aE aE aE hblk ?_;have:k+l.toNat+(c-l.toNat)=k+c:=aE;rw[this];exact hroom
     refine mD.plain m ?_ hrR;simp only[execOp,ho,hval,Option.map_none,Sem.run_bind,hr,Result.andThen_ok,Sem.run_pure]
    |ow0 _ _ b _ _ _ hH' hk'=>
     rw[hH]at hH';injection hH' with _ q1 q2;subst q1;subst q2
     have hcap:xs.length<=k:=by
      rcases hob with⟨hnone,he⟩|⟨b',e'',cur',hb',hblk',hlen',_⟩
      ·rw[he];exact Nat.zero_le _
      ·rcases hk' with⟨h1,_⟩|⟨b2,cur2,e2,h1,h2,h3,_⟩
       ·rw[h1]at hb';cases hb'
       ·rw[h1]at hb';injection hb' with hb';subst hb'
        rw[h2]at hblk';injection hblk' with hblk';injection hblk' with p1 p2;subst p1
        rw[<-h3]at hlen';exact Nat.le_of_mul_le_mul_right hlen' hpos
     have hr0:=R.ow0 (w:=w) (E:=Ex X β H) (β:=β) (H:=H) id k b fz s xs hH hk';clear hk';have hr:=pO (P:=P) (w:=w) (a:=a) (b:=b) (n:=0) (c:=0) hT hk (ht e hk) (dX hg e1) (dX hg e2) h0 h1 aE;refine mD.plain m (v:=.slice (if 0=l.toNat then b else b.map (·.add (l.toNat*(T e).size))) (h.toNat-l.toNat) (0-l.toNat)) (by simp only[execOp,ho,hval,Option.map_none,Sem.run_bind,hr,Result.andThen_ok,Sem.run_pure]) ?_;have e1:h.toNat-l.toNat=0:=aE;have e2:(h-l).toNat=0:=aE;rw[e1,e2,Nat.zero_sub];have e3:k+l.toNat=k:=aE;have e4:l.toNat=0:=aE;rw[e3,e4,if_pos rfl];exact hr0
    |owdead _ _ _ _ hd=>rw[hH]at hd;cases hd
   ·rename_i l h kk m' e1 e2 e3;simp only[kQ.cond]at hok|-;cases hx with
    |ow _ _ _ b c=>exact three hk rfl e1 e2 e3 hok
    |ow0 _ _ b=>exact three hk rfl e1 e2 e3 hok
    |owdead _ _ _ _ hd=>rw[hH]at hd;cases hd
   ·exact hok.elim
  ·exact hok.elim
 ·rename_i e hk;split at hok
  ·rename_i l h e1 e2 e3;simp only[kQ.cond]at hok|-;obtain⟨rfl,rfl⟩:=hok;have hmx':mx=none:=by simpa using e3
   subst hmx';cases hx with
   |nl b=>
    have hr:=pO (P:=P) (w:=w) (a:=a) (b:=b) (n:=0) (c:=0) hT hk (ht e hk) (dX hg e1) (dX hg e2) (Int.le_refl _) (Int.le_refl _) (Int.le_refl _);refine mD.plain m (v:=.slice b 0 0) ?_ (.nl _);simp only[execOp,ho,hval,Option.map_none,Sem.run_bind,hr,Result.andThen_ok,Sem.run_pure];simp
  ·exact hok.elim
 ·rename_i e id k n c hk;split at hok
  ·rename_i fz s xs hH;split at hok
   ·rename_i l h e1 e2 e3;simp only[kQ.cond]at hok|-;obtain⟨h0,h1,h2,h3⟩:=hok;have hmx':mx=none:=by simpa using e3
    subst hmx';cases hx with
    |oc _ _ _ _ p _ _ _ hH' hn hkc hc ha=>
     rw[hH]at hH';injection hH' with _ q1 q2;subst q1;subst q2
     have hr:=pO (P:=P) (w:=w) (a:=a) (b:=p) (n:=n) (c:=c) hT hk (ht e hk) (dX hg e1) (dX hg e2) h0 h1 aE;have hR:R w (Ex X β H) β H (.oc id (k+l.toNat) (h-l).toNat (c-l.toNat)) (.slice (if c=l.toNat then p else p.map (·.add (l.toNat*(T e).size))) (h-l).toNat (c-l.toNat)):=by
      refine .oc id (k+l.toNat) (h-l).toNat (c-l.toNat) _ fz s xs hH aE aE aE ?_;by_cases hcl:c=l.toNat
      ·left;omega
      ·right;rcases ha with ha|⟨b,hb,rfl⟩
       ·omega
       ·exact⟨b,hb,by rw[if_neg hcl];simp only[Option.map_some,Addr.add_lit];rw[<-h3,<-Nat.add_mul]⟩
     refine mD.plain m ?_ hR;have:(h-l).toNat=h.toNat-l.toNat:=aE;rw[this];simp only[execOp,ho,hval,Option.map_none,Sem.run_bind,hr,Result.andThen_ok,Sem.run_pure]
    |ocdead _ _ _ _ _ hd=>rw[hH]at hd;cases hd
   ·exact hok.elim
  ·exact hok.elim
 ·rename_i n e cs hk;have one:∀{h:Int},(hi=none/\h=n\/∃x k,hi=some x/\a.eval x=.int k h)->lo=none->mx=none->0<h->h<=n->n<=1000->(T e).size=1->n<=cs.length->(T e).k.isNone=false->(∀x∈cs.take n,(aQ x).length=1)->∀c,
   mD P w0 X H β w a o ⟨.d (.sl (cs.take h.toNat)),c,[]⟩:=by
   intro h hh hlo hmx' h0 h1 h2 h3 h4 h5 h6 c;subst hlo;subst hmx';cases hx with
   |d _ _ hx=>
    cases hx with
    |ro _ b off us hb hul hu1 hlt hcell hp=>
     have hu:=hT.arr hk;have hso:=cP (P:=P) (w:=w) hT h5;have hsb:=sZ (P:=P) (w:=w) (a:=a) false n n (lo:=none) (l:=0) (.inl ⟨rfl,rfl⟩) hh aE aE aE;have hn0:n≠0:=aE;obtain⟨H0,hH0⟩:∃H0:Nat,h=H0:=⟨h.toNat,aE⟩;subst hH0;refine mD.plain m (v:=.slice (some ⟨b,off,none⟩) H0 n) ?_ (.d _ _ ?_)
     ·simp only[Option.map_none]at hsb;simp[execOp,ho,hval,Instr.sliceAt,run_underlying hu,Instr.sureAddr,hsb,hso,hn0,Addr.add_lit]
     ·have hfl:∀l:List DV,(∀x∈l,(aQ x).length=1)->bS l=l.flatMap aQ:=λl _=>rfl;have hcs:∀x∈cs.take H0,(aQ x).length=1:=λx hx'=>h6 x (by
       have:cs.take H0=(cs.take n).take H0:=(by rw[List.take_take,Nat.min_eq_left aE]);rw[this]at hx';exact List.mem_of_mem_take hx')
      have hlen:(cs.take H0).length=H0:=(by rw[List.length_take];omega);simp only[Int.toNat_natCast];have hfin:=RD.sl (w:=w) (E:=Ex X β H) (cs.take H0) b off n 1 (us.take H0) (by intro q;rw[q]at hlen;simp at hlen;omega) hb hcs (by rw[hlen];omega) (Nat.le_trans h2 bC)
       (by rw[hlen,List.length_take];omega) (λu hu=>hu1 u (List.mem_of_mem_take hu)) hlt (λj u hj=>?_) (λi d v hd hv=>?_)
      ·rw[hlen]at hfin;exact hfin
      ·rw[List.getElem?_take]at hj;split at hj
       ·exact hcell j u hj
       ·cases hj
      ·rw[List.getElem?_take]at hv;split at hv
       ·rename_i hi';have hci:i<(cs.take H0).length:=aE;obtain⟨dd,hdd,hdq⟩:=TI hcs hd;rw[List.getElem?_take,if_pos hi']at hdd;exact Xs (hp i dd v hdd hv) (hu1 v (List.mem_of_getElem? hv)) hdq
       ·cases hv
  split at hok
  ·rename_i e1 e2 e3;by_cases hag:(T e).k.agg=true
   ·rw[if_pos hag]at hok|-;simp only[kQ.cond]at hok|-;obtain⟨h0,h1,h2,h3,h4⟩:=hok;have hlo:lo=none:=by simpa using e1
    have hhi:hi=none:=by simpa using e2
    have hmx':mx=none:=by simpa using e3
    subst hlo;subst hhi;subst hmx';cases hx with
    |d _ _ hx=>
     cases hx with
     |ro _ b off us hb hul hu1 hlt hcell hp=>
      have hu:=hT.arr hk;have hso:=cP (P:=P) (w:=w) hT h4;have hsb:=sZ (P:=P) (w:=w) (a:=a) false n n (lo:=none) (hi:=none) (l:=0) (h:=n) (.inl ⟨rfl,rfl⟩) (.inl ⟨rfl,rfl⟩) aE aE aE;have hn0:n≠0:=aE;refine mD.plain m (v:=.slice (some ⟨b,off,none⟩) n n) ?_ (.d _ _ ?_)
      ·simp only[Option.map_none]at hsb;simp[execOp,ho,hval,Instr.sliceAt,run_underlying hu,Instr.sureAddr,hsb,hso,hn0,Addr.add_lit]
      ·have hcl:=Du n (T e).size cs;have hfl:=BN h3;have hfin:=RD.sl (w:=w) (E:=Ex X β H) (kR n (T e).size cs) b off n (T e).size (us.take (n*(T e).size)) (by intro q;rw[q]at hcl;simp at hcl;omega) hb (BO h3) aE (Nat.le_trans h1 bC)
        (by rw[hcl,List.length_take];omega) (λu hu=>hu1 u (List.mem_of_mem_take hu)) hlt (λj u hj=>?_) (λi d v hd hv=>?_)
       ·rw[hcl]at hfin;exact hfin
       ·rw[List.getElem?_take]at hj;split at hj
        ·exact hcell j u hj
        ·cases hj
       ·rw[hfl,List.getElem?_take]at hd;rw[List.getElem?_take]at hv;split at hd
        ·rename_i hi;rw[if_pos hi]at hv;exact hp i d v hd hv
        ·cases hd
   ·rw[if_neg hag]at hok|-;simp only[kQ.cond]at hok|-;obtain⟨h0,h1,h2,h3,h4,h5⟩:=hok;have:=one (h:=(n:Int)) (.inl ⟨by simpa using e2,rfl⟩) (by simpa using e1) (by simpa using e3) aE aE h1 h2 h3 h4 h5 (0<n/\n<=1000/\(T e).size=1/\n<=cs.length/\(T e).k.isNone=false/\∀x∈cs.take n,(aQ x).length=1);simpa only[Int.toNat_natCast]using this
  ·rename_i k h e1 e2 e3;by_cases hag:(T e).k.agg=true
   ·rw[if_pos hag]at hok;exact hok.elim
   ·rw[if_neg hag]at hok|-;simp only[kQ.cond]at hok|-;obtain⟨h0,h1,h2,h3,h4,h5,h6⟩:=hok;obtain⟨hm,hhm,hgm⟩:=Option.map_eq_some_iff.1 e2;have hvm:=hg hm;rw[hgm]at hvm;exact one (h:=h) (.inr ⟨hm,k,hhm,hvm.int⟩) (by simpa using e1) (by simpa using e3) h0 h1 h2 h3 h4 h5 h6 _
  ·exact hok.elim
 ·exact hok.elim
end
end
end Go.Eng
