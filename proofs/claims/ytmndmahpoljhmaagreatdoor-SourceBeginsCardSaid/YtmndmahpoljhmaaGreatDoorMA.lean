/-
  Texts of the proofs of this seat, part 1. No condition.
-/
import Derived.WalkKit
import Derived.WalkSpells
import Derived.WalkLawsBesides
import Derived.ChangeKeysEq
set_option linter.unusedVariables false
set_option linter.unusedSimpArgs false
namespace Go.Eng
inductive DV where
 |int (k:IntKind) (n:Int)
 |bool (b:Bool)
 |str (s:List UInt8)
 |agg (cs:List DV)
 |sl (xs:List DV)
 |ro (cs:List DV)
 |fn (f:FuncId) (caps:List DV)
 |bm (f:FuncId) (first:List DV)
 |val (v:Value)
 |mp (ks vs:List DV)
 deriving Inhabited
end Go.Eng
namespace Go.Eng
def wK:List DV:=[.str [118,97,114],.str [114,101,99],.str [99,104,97,110],.str [108,111,99,107],.str [102,105,108,101],.str [112,114,111,99],.str [116,101,115,116],.str [],.str [],.str [],.str [],.str [105,102],.str [119,104,105,108,101],.str [103,111],.str [99,97,108,108],.str [115,101,110,100],.str [114,101,99,118],.str [97,99,113,117,105,114,101],.str [114,101,108,101,97,115,101],.str [100,114,97,119],.str [110,111,119],.str [115,108,101,101,112],.str [119,114,105,116,101],.str [114,101,97,100],.str [99,104,101,99,107],.str [97,108,108,111,99]]
def Em:List DV:=[.int .i64 (-999),.int .i64 999,.int .i64 0,.int .i64 0,.int .i64 0,.int .i64 3,.int .i64 0,.int .i64 0,.int .i64 0,.int .i64 0,.int .i64 0,.int .i64 0,.int .i64 0,.int .i64 0,.int .i64 (-999),.int .i64 999,.int .i64 0,.int .i64 0,.int .i64 0,.int .i64 0,.int .i64 0,.int .i64 0,.int .i64 0,.int .i64 0,.int .i64 0,.int .i64 0,.int .i64 0,.int .i64 0,.int .i64 0,.int .i64 0,.int .i64 0,.int .i64 0,.int .i64 0,.int .i64 0,.int .i64 0,.int .i64 0,.int .i64 0,.int .i64 0,.int .i64 2,.int .i64 6,.int .i64 0,.int .i64 0,.int .i64 1,.int .i64 9,.int .i64 0,.int .i64 0,.int .i64 0,.int .i64 0,.int .i64 0,.int .i64 0,.int .i64 1,.int .i64 99,.int .i64 0,.int .i64 0,.int .i64 0,.int .i64 0,.int .i64 0,.int .i64 0,.int .i64 0,.int .i64 0,.int .i64 0,.int .i64 0,.int .i64 0,.int .i64 0,.int .i64 0,.int .i64 999,.int .i64 0,.int .i64 0,.int .i64 0,.int .i64 0,.int .i64 0,.int .i64 0,.int .i64 0,.int .i64 0]
def BA:List DV:=[.str [60],.int .i64 1,.str [60,61],.int .i64 1,.str [61,61],.int .i64 1,.str [43],.int .i64 2,.str [45],.int .i64 2,.str [42],.int .i64 3]
def JE:List DV:=[.int .u64 1,.int .u64 10,.int .u64 100,.int .u64 1000,.int .u64 10000,.int .u64 100000,.int .u64 1000000,.int .u64 10000000,.int .u64 100000000,.int .u64 1000000000,.int .u64 10000000000,.int .u64 100000000000,.int .u64 1000000000000,.int .u64 10000000000000,.int .u64 100000000000000,.int .u64 1000000000000000,.int .u64 10000000000000000,.int .u64 100000000000000000,.int .u64 1000000000000000000,.int .u64 10000000000000000000]
def Qe:List DV:=[.int .u8 0,.int .u8 1,.int .u8 28,.int .u8 2,.int .u8 29,.int .u8 14,.int .u8 24,.int .u8 3,.int .u8 30,.int .u8 22,.int .u8 20,.int .u8 15,.int .u8 25,.int .u8 17,.int .u8 4,.int .u8 8,.int .u8 31,.int .u8 27,.int .u8 13,.int .u8 23,.int .u8 21,.int .u8 19,.int .u8 16,.int .u8 7,.int .u8 26,.int .u8 12,.int .u8 18,.int .u8 6,.int .u8 11,.int .u8 5,.int .u8 10,.int .u8 9]
def Qf:List DV:=[.int .u8 0,.int .u8 1,.int .u8 56,.int .u8 2,.int .u8 57,.int .u8 49,.int .u8 28,.int .u8 3,.int .u8 61,.int .u8 58,.int .u8 42,.int .u8 50,.int .u8 38,.int .u8 29,.int .u8 17,.int .u8 4,.int .u8 62,.int .u8 47,.int .u8 59,.int .u8 36,.int .u8 45,.int .u8 43,.int .u8 51,.int .u8 22,.int .u8 53,.int .u8 39,.int .u8 33,.int .u8 30,.int .u8 24,.int .u8 18,.int .u8 12,.int .u8 5,.int .u8 63,.int .u8 55,.int .u8 48,.int .u8 27,.int .u8 60,.int .u8 41,.int .u8 37,.int .u8 16,.int .u8 46,.int .u8 35,.int .u8 44,.int .u8 21,.int .u8 52,.int .u8 32,.int .u8 23,.int .u8 11,.int .u8 54,.int .u8 26,.int .u8 40,.int .u8 15,.int .u8 34,.int .u8 20,.int .u8 31,.int .u8 10,.int .u8 25,.int .u8 14,.int .u8 19,.int .u8 9,.int .u8 13,.int .u8 8,.int .u8 7,.int .u8 6]
def globD:Nat→Option (List DV)
 |0=>some wK
 |1=>some Em
 |4=>some BA
 |8=>some JE
 |9=>some Qe
 |10=>some Qf
 |_=>none
@[simp] theorem RH:globD 0=some wK:=rfl
@[simp] theorem RI:globD 1=some Em:=rfl
@[simp] theorem RJ:globD 4=some BA:=rfl
@[simp] theorem RK:globD 8=some JE:=rfl
@[simp] theorem RL:globD 9=some Qe:=rfl
@[simp] theorem Ri:globD 10=some Qf:=rfl
end Go.Eng
namespace Go.Eng
open Go.RowKit
structure En(B:Nat)(w w':World):Prop where
 os:w'.os=w.os
 tape:w'.tape=w.tape
 output:w'.output=w.output
 size:w.heap.size≤w'.heap.size
 block:∀k,k<B→w'.heap[k]? =w.heap[k]?
 drawn:w.drawn≤w'.drawn
theorem En.below{B:Nat}{w w':World}(h:En B w w'):Below B w w':=⟨h.os,h.tape,h.output,h.size,h.block⟩
theorem En.refl(B:Nat)(w:World):En B w w:=⟨rfl,rfl,rfl,Nat.le_refl _,fun _ _=>rfl,Nat.le_refl _⟩
theorem En.of_below{B:Nat}{w w':World}(h:Below B w w')(hd:w.drawn≤w'.drawn):En B w w':=⟨h.os,h.tape,h.output,h.size,h.block,hd⟩
theorem En.alloc{B:Nat}{w w':World}(h:En B w w')(hB:B≤w'.heap.size)(o:Obj):En B w (w'.alloc o):=.of_below (h.below.alloc hB o) h.drawn
theorem En.drew{B:Nat}{w w':World}(h:En B w w'):En B w w'.drew:=.of_below h.below.drew (Nat.le_succ_of_le h.drawn)
def aE:DV→List DV
 | .agg cs=>cs
 |x=>[x]
def bO(xs:List DV):List DV:=xs.flatMap aE
def qU(arr:Array MapEntry)(clock:Nat):Prop:=(∀(i:Nat) (e:MapEntry),arr[i]? =some e→e.born<clock)∧∀(i j:Nat) (e e':MapEntry),arr[i]? =some e→arr[j]? =some e'→e.born=e'.born→i=j
inductive RD(w:World)(E:Nat→Prop):DV→Value→Prop
 |int (k:IntKind) (n:Int):RD w E (.int k n) (.int k n)
 |bool (b:Bool):RD w E (.bool b) (.bool b)
 |str (s:List UInt8):RD w E (.str s) (.string ⟨s.toArray⟩)
 |agg (cs:List DV) (vs:List Value) (hl:vs.length=cs.length) (h1:∀u∈vs,u.oneCell'=true) (h:∀(i:Nat) (c:DV) (v:Value),cs[i]? =some c→vs[i]? =some v→RD w E c v):RD w E (.agg cs) (.agg vs.toArray)
 |sl0 (a:Option Addr) (c:Nat) (hc:c≤maxLen):RD w E (.sl []) (.slice a 0 c)
 |sl (xs:List DV) (b o c size:Nat) (us:List Value) (hx:xs≠[]) (hb:¬E b) (hs:∀x∈xs,(aE x).length=size) (hlen:xs.length≤c) (hc:c≤maxLen)
   (hul:us.length=xs.length*size) (h1:∀u∈us,u.oneCell'=true) (hlt:b<w.heap.size) (hcell:∀(j:Nat) (u:Value),us[j]? =some u→w.cell? ⟨b,o+j,none⟩=some u)
   (h:∀(i:Nat) (d:DV) (v:Value),(bO xs)[i]? =some d→us[i]? =some v→RD w E d v):RD w E (.sl xs) (.slice (some ⟨b,o,none⟩) xs.length c)
 |ro (cs:List DV) (b o:Nat) (us:List Value) (hb:¬E b) (hul:us.length=cs.length) (h1:∀u∈us,u.oneCell'=true) (hlt:b<w.heap.size) (hcell:∀(j:Nat) (u:Value),us[j]? =some u→w.cell? ⟨b,o+j,none⟩=some u)
   (h:∀(i:Nat) (d:DV) (v:Value),cs[i]? =some d→us[i]? =some v→RD w E d v):RD w E (.ro cs) (.pointer (some ⟨b,o,none⟩))
 |fn (f:FuncId) (cs:List DV) (vs:List Value) (hl:vs.length=cs.length) (h:∀(i:Nat) (c:DV) (v:Value),cs[i]? =some c→vs[i]? =some v→RD w E c v):RD w E (.fn f cs) (.func (.func f) #[] vs.toArray)
 |bm (f:FuncId) (cs:List DV) (vs:List Value) (hl:vs.length=cs.length) (h:∀(i:Nat) (c:DV) (v:Value),cs[i]? =some c→vs[i]? =some v→RD w E c v):RD w E (.bm f cs) (.func (.func f) vs.toArray #[])
 |val (v:Value) (hv:v.oneCell'=true):RD w E (.val v) v
 |mp (ks vs:List DV) (b clock:Nat) (arr:Array MapEntry) (hb:¬E b) (hlt:b<w.heap.size) (hblk:w.heap[b]? =some (.map arr clock)) (hk:ks.length=arr.size) (hl:vs.length=arr.size) (hborn:qU arr clock)
   (hkey:∀(i:Nat) (d:DV) (e:MapEntry),ks[i]? =some d→arr[i]? =some e→RD w E d e.key) (hval:∀(i:Nat) (d:DV) (e:MapEntry),vs[i]? =some d→arr[i]? =some e→RD w E d e.val):RD w E (.mp ks vs) (.map (some b))
def Qm(w:World)(E:Nat→Prop)(cs:List DV)(vs:List Value):Prop:=vs.length=cs.length∧∀(i:Nat) (c:DV) (v:Value),cs[i]? =some c→vs[i]? =some v→RD w E c v
theorem OM{w:World}{b o:Nat}{u:Value}(h:w.cell? ⟨b,o,none⟩=some u):b<w.heap.size:=by
 have:=World.block_lt_of_cell? w _ h
 exact this
theorem RD.step{w w':World}{E E':Nat→Prop}(hw:∀k,k<w.heap.size→¬E k→w'.heap[k]? =w.heap[k]?)(hs:w.heap.size≤w'.heap.size)(hE:∀k,k<w.heap.size→E' k→E k)
 {d:DV}{v:Value}(h:RD w E d v):RD w' E' d v:=by
 induction h with
 |int k n=>exact .int k n
 |bool b=>exact .bool b
 |str s=>exact .str s
 |agg cs vs hl h1 _ ih=>exact .agg cs vs hl h1 ih
 |sl0 a c hc=>exact .sl0 a c hc
 |sl xs b o c size us hx hb hs' hlen hc hul h1 hlt hcell _ ih=>
  refine .sl xs b o c size us hx (fun he=>hb (hE b hlt he)) hs' hlen hc hul h1 (Nat.lt_of_lt_of_le hlt hs) (fun j u hj=>?_) ih
  rw[World.cell?_of_block (w:=w) (hw b hlt hb)]
  exact hcell j u hj
 |ro cs b o us hb hul h1 hlt hcell _ ih=>
  refine .ro cs b o us (fun he=>hb (hE b hlt he)) hul h1 (Nat.lt_of_lt_of_le hlt hs) (fun j u hj=>?_) ih
  rw[World.cell?_of_block (w:=w) (hw b hlt hb)]
  exact hcell j u hj
 |fn f cs vs hl _ ih=>exact .fn f cs vs hl ih
 |bm f cs vs hl _ ih=>exact .bm f cs vs hl ih
 |val v hv=>exact .val v hv
 |mp ks vs b clock arr hb hlt hblk hk hl hborn _ _ ih1 ih2=>exact .mp ks vs b clock arr (fun he=>hb (hE b hlt he)) (Nat.lt_of_lt_of_le hlt hs) ((hw b hlt hb).trans hblk) hk hl hborn ih1 ih2
def wP:Obj→Bool
 | .deferred _=>false
 | .loop _=>false
 |_=>true
theorem Ku{w:World}{a:Addr}{u:Value}(h:w.cell? a=some u):∃o,w.heap[a.block]? =some o∧wP o=true:=by
 unfold World.cell? at h
 cases ho:w.heap[a.block]? with
 |none=>simp[ho]at h
 |some o=>exact⟨o,rfl,by cases o<;>simp_all[wP]⟩
theorem RD.keep{w w':World}{E:Nat→Prop}(hw:∀(k:Nat) (o:Obj),w.heap[k]? =some o→wP o=true→w'.heap[k]? =some o)(hs:w.heap.size≤w'.heap.size)
 {d:DV}{v:Value}(h:RD w E d v):RD w' E d v:=by
 have hc:∀{a:Addr} {u:Value},w.cell? a=some u→w'.cell? a=some u:=fun{a u} h=>by
  obtain⟨o,h1,h2⟩:=Ku h
  rw[World.cell?_of_block (w:=w) ((hw _ o h1 h2).trans h1.symm)]
  exact h
 induction h with
 |int k n=>exact .int k n
 |bool b=>exact .bool b
 |str s=>exact .str s
 |agg cs vs hl h1 _ ih=>exact .agg cs vs hl h1 ih
 |sl0 a c hc=>exact .sl0 a c hc
 |sl xs b o c size us hx hb hs' hlen hcm hul h1 hlt hcell _ ih=>
  exact .sl xs b o c size us hx hb hs' hlen hcm hul h1 (Nat.lt_of_lt_of_le hlt hs) (fun j u hj=>hc (hcell j u hj)) ih
 |ro cs b o us hb hul h1 hlt hcell _ ih=>exact .ro cs b o us hb hul h1 (Nat.lt_of_lt_of_le hlt hs) (fun j u hj=>hc (hcell j u hj)) ih
 |fn f cs vs hl _ ih=>exact .fn f cs vs hl ih
 |bm f cs vs hl _ ih=>exact .bm f cs vs hl ih
 |val v hv=>exact .val v hv
 |mp ks vs b clock arr hb hlt hblk hk hl hborn _ _ ih1 ih2=>exact .mp ks vs b clock arr hb (Nat.lt_of_lt_of_le hlt hs) (hw b _ hblk rfl) hk hl hborn ih1 ih2
theorem RD.anti{w:World}{E E':Nat→Prop}(hE:∀k,E' k→E k){d:DV}{v:Value}(h:RD w E d v):RD w E' d v:=
 h.step (fun _ _ _=>rfl) (Nat.le_refl _) fun k _=>hE k
def Cr(w:World)(E:Nat→Prop):Prop:=∀n cs,globD n=some cs→RD w E (.ro cs) (.pointer (some ⟨n,0,none⟩))∧∃arr t fz,w.heap[n]? =some (.cells arr t fz)∧arr.size=cs.length
theorem RD.ro_block{w:World}{E:Nat→Prop}{cs:List DV}{n:Nat}(h:RD w E (.ro cs) (.pointer (some ⟨n,0,none⟩))):¬E n∧n<w.heap.size:=by
 cases h with|ro _ _ _ us hb _ _ hlt _ _=>exact⟨hb,hlt⟩
theorem Cr.step{w w':World}{E E':Nat→Prop}(hw:∀k,k<w.heap.size→¬E k→w'.heap[k]? =w.heap[k]?)(hs:w.heap.size≤w'.heap.size)(hE:∀k,k<w.heap.size→E' k→E k)
 (h:Cr w E):Cr w' E':=fun n cs e=>by
 obtain⟨h1,arr,t,fz,h2,h3⟩:=h n cs e
 exact⟨h1.step hw hs hE,arr,t,fz,by rw[hw n h1.ro_block.2 h1.ro_block.1];exact h2,h3⟩
theorem Cr.anti{w:World}{E E':Nat→Prop}(hE:∀k,E' k→E k)(h:Cr w E):Cr w E':=fun n cs e=>⟨(h n cs e).1.anti hE,(h n cs e).2⟩
def Rj(w:World)(X:Nat→Prop):Prop:=(∀k,X k→k<w.heap.size)∧Cr w X
inductive LV where
 |d (x:DV)
 |agg (cs:List LV)
 |bx (id off:Nat)
 |rp (id k j:Nat)
 |ow (id k n:Nat)
 |fn (f:FuncId) (caps:List LV)
 |bm (f:FuncId) (first:List LV)
 |tup (vs:List LV)
 |when (c:Bool) (x:LV)
 |nl
 |mp (id:Nat)
 |it (id:Nat)
 |oc (id k n c:Nat)
 |junk
 deriving Inhabited
inductive aX where
 |absent
 |dead
 |box (fz:Bool) (cs:List LV)
 |row (fz:Bool) (size:Nat) (xs:List DV)
 |map (fz:Bool) (ks vs:List DV)
 |iter (fz:Bool) (ks vs:List DV)
 |know (x:LV) (v:Value)
 deriving Inhabited
def aX.mut:aX→Bool
 | .box fz _=> !fz
 | .row fz _ _=> !fz
 | .map fz _ _=> !fz
 | .iter fz _ _=> !fz
 |_=>false
def aX.live:aX→Bool
 | .box _ _=>true
 | .row _ _ _=>true
 | .map _ _ _=>true
 | .iter _ _ _=>true
 |_=>false
def Ex(X:Nat→Prop)(β:Nat→Option Nat)(H:Nat→aX)(k:Nat):Prop:=X k∨∃id,(H id).mut=true∧β id=some k
inductive R(w:World)(E:Nat→Prop)(β:Nat→Option Nat)(H:Nat→aX):LV→Value→Prop
 |d (x:DV) (v:Value) (h:RD w E x v):R w E β H (.d x) v
 |agg (cs:List LV) (vs:List Value) (hl:vs.length=cs.length) (h1:∀u∈vs,u.oneCell'=true) (h:∀(i:Nat) (c:LV) (v:Value),cs[i]? =some c→vs[i]? =some v→R w E β H c v):R w E β H (.agg cs) (.agg vs.toArray)
 |bx (id off b:Nat) (fz:Bool) (cs:List LV) (hH:H id=.box fz cs) (hb:β id=some b):R w E β H (.bx id off) (.pointer (some ⟨b,off,none⟩))
 |bxdead (id off:Nat) (v:Value) (hH:H id=.dead) (h1:v.oneCell'=true):R w E β H (.bx id off) v
 |rp (id k j b:Nat) (fz:Bool) (size:Nat) (xs:List DV) (hH:H id=.row fz size xs) (hb:β id=some b):R w E β H (.rp id k j) (.pointer (some ⟨b,k*size+j,none⟩))
 |rpdead (id k j:Nat) (v:Value) (hH:H id=.dead) (h1:v.oneCell'=true):R w E β H (.rp id k j) v
 |ow (id k n b c:Nat) (fz:Bool) (size:Nat) (xs:List DV) (cur:Array Value) (e:TypeId) (hH:H id=.row fz size xs) (hb:β id=some b) (hkn:k+n≤xs.length) (hn:n≤c) (hc:c≤maxLen)
   (hblk:w.heap[b]? =some (.cells cur e (0,0))) (hroom:(k+c)*size=cur.size):R w E β H (.ow id k n) (.slice (some ⟨b,k*size,none⟩) n c)
 |ow0 (id k:Nat) (a:Option Addr) (fz:Bool) (size:Nat) (xs:List DV) (hH:H id=.row fz size xs) (h0:(β id=none∧k=0)∨∃b cur e,β id=some b∧w.heap[b]? =some (.cells cur e (0,0))∧k*size=cur.size∧k≤xs.length):R w E β H (.ow id k 0) (.slice a 0 0)
 |owdead (id k n:Nat) (v:Value) (hH:H id=.dead) (h1:v.oneCell'=true):R w E β H (.ow id k n) v
 |fn (f:FuncId) (cs:List LV) (vs:List Value) (hl:vs.length=cs.length) (h:∀(i:Nat) (c:LV) (v:Value),cs[i]? =some c→vs[i]? =some v→R w E β H c v):R w E β H (.fn f cs) (.func (.func f) #[] vs.toArray)
 |bm (f:FuncId) (cs:List LV) (vs:List Value) (hl:vs.length=cs.length) (h:∀(i:Nat) (c:LV) (v:Value),cs[i]? =some c→vs[i]? =some v→R w E β H c v):R w E β H (.bm f cs) (.func (.func f) vs.toArray #[])
 |tup (cs:List LV) (vs:List Value) (hl:vs.length=cs.length) (h:∀(i:Nat) (c:LV) (v:Value),cs[i]? =some c→vs[i]? =some v→R w E β H c v):R w E β H (.tup cs) (.tuple vs.toArray)
 |when (c:Bool) (x:LV) (v:Value) (h:c=true→R w E β H x v) (h0:c=false→v=undef):R w E β H (.when c x) v
 |nl (a:Option Addr):R w E β H .nl (.slice a 0 0)
 |mp (id b:Nat) (fz:Bool) (ks vs:List DV) (hH:H id=.map fz ks vs) (hb:β id=some b):R w E β H (.mp id) (.map (some b))
 |mpdead (id:Nat) (v:Value) (hH:H id=.dead) (h1:v.oneCell'=true):R w E β H (.mp id) v
 |it (id b:Nat) (fz:Bool) (ks vs:List DV) (hH:H id=.iter fz ks vs) (hb:β id=some b):R w E β H (.it id) (.pointer (some ⟨b,0,none⟩))
 |itdead (id:Nat) (v:Value) (hH:H id=.dead) (h1:v.oneCell'=true):R w E β H (.it id) v
 |oc (id k n c:Nat) (a:Option Addr) (fz:Bool) (size:Nat) (xs:List DV) (hH:H id=.row fz size xs) (hn:n≤c) (hkc:k+c≤xs.length) (hc:c≤maxLen) (ha:c=0∨∃b,β id=some b∧a=some ⟨b,k*size,none⟩):R w E β H (.oc id k n c) (.slice a n c)
 |ocdead (id k n c:Nat) (v:Value) (hH:H id=.dead) (h1:v.oneCell'=true):R w E β H (.oc id k n c) v
 |junk (v:Value):R w E β H .junk v
def cC(w:World)(β:Nat→Option Nat)(H:Nat→aX)(w':World)(β':Nat→Option Nat)(H':Nat→aX)(id:Nat):Prop:=
 match H id with
 | .absent=>True
 | .dead=>H' id=.dead
 | .box _ _=>H' id=.dead∨((∃fz cs,H' id=.box fz cs)∧β' id=β id)
 | .row _ size xs=>H' id=.dead∨((∃fz xs',H' id=.row fz size xs'∧xs.length≤xs'.length)∧β' id=β id∧
     ∀b cur e,β id=some b→w.heap[b]? =some (.cells cur e (0,0))→∃cur' e',w'.heap[b]? =some (.cells cur' e' (0,0))∧cur'.size=cur.size)
 | .map _ _ _=>H' id=.dead∨((∃fz ks vs,H' id=.map fz ks vs)∧β' id=β id)
 | .iter _ _ _=>H' id=.dead∨((∃fz ks vs,H' id=.iter fz ks vs)∧β' id=β id)
 | .know _ _=>True
theorem R.step{w w':World}{E E':Nat→Prop}{β β':Nat→Option Nat}{H H':Nat→aX}(hD:∀x v,RD w E x v→RD w' E' x v)(hP:∀id,cC w β H w' β' H' id)
 {l:LV}{v:Value}(h:R w E β H l v):R w' E' β' H' l v:=by
 induction h with
 |d x v h=>exact .d x v (hD x v h)
 |agg cs vs hl h1 _ ih=>exact .agg cs vs hl h1 ih
 |bx id off b fz cs hH hb=>
  have hp:=hP id
  simp only[cC,hH]at hp
  rcases hp with hp|⟨⟨fz',cs',hp⟩,hb'⟩
  ·exact .bxdead _ _ _ hp rfl
  ·exact .bx id off b fz' cs' hp (hb'.trans hb)
 |bxdead id off v hH h1=>exact .bxdead id off v (by have hp:=hP id;simpa only[cC,hH]using hp) h1
 |rp id k j b fz size xs hH hb=>
  have hp:=hP id
  simp only[cC,hH]at hp
  rcases hp with hp|⟨⟨fz',xs',hp,_⟩,hb',_⟩
  ·exact .rpdead _ _ _ _ hp rfl
  ·exact .rp id k j b fz' size xs' hp (hb'.trans hb)
 |rpdead id k j v hH h1=>exact .rpdead id k j v (by have hp:=hP id;simpa only[cC,hH]using hp) h1
 |ow id k n b c fz size xs cur e hH hb hkn hn hc hblk hroom=>
  have hp:=hP id
  simp only[cC,hH]at hp
  rcases hp with hp|⟨⟨fz',xs',hp,hlen⟩,hb',hh⟩
  ·exact .owdead _ _ _ _ hp rfl
  ·obtain⟨cur',e',hblk',hsz⟩:=hh b cur e hb hblk
   exact .ow id k n b c fz' size xs' cur' e' hp (hb'.trans hb) (by omega) hn hc hblk' (hroom.trans hsz.symm)
 |ow0 id k a fz size xs hH h0=>
  have hp:=hP id
  simp only[cC,hH]at hp
  rcases hp with hp|⟨⟨fz',xs',hp,hlen⟩,hb',hh⟩
  ·exact .owdead _ _ _ _ hp rfl
  ·refine .ow0 id k a fz' size xs' hp ?_
   rcases h0 with⟨h1,h2⟩|⟨b,cur,e,h1,h2,h3,h4⟩
   ·exact .inl ⟨hb'.trans h1,h2⟩
   ·obtain⟨cur',e',hblk',hsz⟩:=hh b cur e h1 h2
    exact .inr ⟨b,cur',e',hb'.trans h1,hblk',h3.trans hsz.symm,by omega⟩
 |owdead id k n v hH h1=>exact .owdead id k n v (by have hp:=hP id;simpa only[cC,hH]using hp) h1
 |fn f cs vs hl _ ih=>exact .fn f cs vs hl ih
 |bm f cs vs hl _ ih=>exact .bm f cs vs hl ih
 |tup cs vs hl _ ih=>exact .tup cs vs hl ih
 |when c x v _ h0 ih=>exact .when c x v ih h0
 |nl a=>exact .nl a
 |mp id b fz ks vs hH hb=>
  have hp:=hP id
  simp only[cC,hH]at hp
  rcases hp with hp|⟨⟨fz',ks',vs',hp⟩,hb'⟩
  ·exact .mpdead _ _ hp rfl
  ·exact .mp id b fz' ks' vs' hp (hb'.trans hb)
 |mpdead id v hH h1=>exact .mpdead id v (by have hp:=hP id;simpa only[cC,hH]using hp) h1
 |it id b fz ks vs hH hb=>
  have hp:=hP id
  simp only[cC,hH]at hp
  rcases hp with hp|⟨⟨fz',ks',vs',hp⟩,hb'⟩
  ·exact .itdead _ _ hp rfl
  ·exact .it id b fz' ks' vs' hp (hb'.trans hb)
 |itdead id v hH h1=>exact .itdead id v (by have hp:=hP id;simpa only[cC,hH]using hp) h1
 |oc id k n c a fz size xs hH hn hkc hc ha=>
  have hp:=hP id
  simp only[cC,hH]at hp
  rcases hp with hp|⟨⟨fz',xs',hp,hlen⟩,hb',_⟩
  ·exact .ocdead _ _ _ _ _ hp rfl
  ·exact .oc id k n c a fz' size xs' hp hn (by omega) hc (ha.imp (fun h=>h) fun⟨b,h1,h2⟩=>⟨b,hb'.trans h1,h2⟩)
 |ocdead id k n c v hH h1=>exact .ocdead id k n c v (by have hp:=hP id;simpa only[cC,hH]using hp) h1
 |junk v=>exact .junk v
def fU(w:World)(E:Nat→Prop)(β:Nat→Option Nat)(H:Nat→aX)(id:Nat):Prop:=
 match H id with
 | .box _ cs=>∃b e us,β id=some b∧w.heap[b]? =some (.cells (List.toArray us) e (0,0))∧us.length=cs.length∧(∀u∈us,u.oneCell'=true)∧∀(i:Nat) (c:LV) (v:Value),cs[i]? =some c→us[i]? =some v→R w E β H c v
 | .row _ size xs=>0<size∧(∀x∈xs,(aE x).length=size)∧((β id=none∧xs=[])∨
     ∃b e cur,β id=some b∧w.heap[b]? =some (.cells cur e (0,0))∧xs.length*size≤cur.size∧∀(i:Nat) (d:DV) (v:Value),(bO xs)[i]? =some d→cur[i]? =some v→v.oneCell'=true∧RD w E d v)
 | .map _ ks vs=>∃b arr clock,β id=some b∧w.heap[b]? =some (.map arr clock)∧ks.length=arr.size∧vs.length=arr.size∧qU arr clock∧
     (∀(i:Nat) (d:DV) (e:MapEntry),ks[i]? =some d→arr[i]? =some e→RD w E d e.key)∧∀(i:Nat) (d:DV) (e:MapEntry),vs[i]? =some d→arr[i]? =some e→RD w E d e.val
 | .iter _ ks vs=>∃b bm arr clock seen last,β id=some b∧w.heap[b]? =some (.mapIter (some bm) clock seen last)∧¬E bm∧bm<w.heap.size∧w.heap[bm]? =some (.map arr clock)∧qU arr clock∧(seen.isEmpty=false→last=clock)∧
     ks.length=(arr.filter fun e=> !seen.contains e.born).size∧vs.length=(arr.filter fun e=> !seen.contains e.born).size∧
     (∀(i:Nat) (d:DV) (e:MapEntry),ks[i]? =some d→(arr.filter fun e=> !seen.contains e.born)[i]? =some e→RD w E d e.key)∧∀(i:Nat) (d:DV) (e:MapEntry),vs[i]? =some d→(arr.filter fun e=> !seen.contains e.born)[i]? =some e→RD w E d e.val
 | .know x v=>R w E β H x v
 |_=>True
structure yG where
 env:Nat→LV
 H:Nat→aX
 ok:Prop
structure iU where
 w:World
 β:Nat→Option Nat
 H:Nat→aX
 pins:List Nat
 flat:Bool
def iU.own(w0:iU)(k:Nat):Prop:=∃id∈w0.pins,(w0.H id).mut=true∧w0.β id=some k
def iU.mine(w0:iU)(k:Nat):Prop:=∃id∈w0.pins,(w0.H id).live=true∧w0.β id=some k
structure ON(w0:iU)(w:World):Prop where
 os:w.os=w0.w.os
 tape:w.tape=w0.w.tape
 output:w.output=w0.w.output
 size:w0.w.heap.size≤w.heap.size
 block:∀k,k<w0.w.heap.size→¬w0.own k→w.heap[k]? =w0.w.heap[k]?
 drawn:w0.w.drawn≤w.drawn
theorem ON.of_below{w0:iU}{w w':World}(h:ON w0 w)(k:En w.heap.size w w'):ON w0 w':=
 ⟨k.os.trans h.os,k.tape.trans h.tape,k.output.trans h.output,Nat.le_trans h.size k.size,fun i hi hn=>(k.block i (Nat.lt_of_lt_of_le hi h.size)).trans (h.block i hi hn),Nat.le_trans h.drawn k.drawn⟩
def Eo(w0:iU)(w:World)(E:Nat→Prop)(l:List Deferred):Prop:=∃Ds:List Nat,(w0.flat=true→Ds=[])∧Ds.Nodup∧l=Ds.map (fun D=>{target:=.collected D,args:= #[]})∧∀D∈Ds,w0.w.heap.size≤D∧¬E D∧w.heap[D]? =some (.deferred (some []))
theorem Eo.nil{w0:iU}{w:World}{E:Nat→Prop}:Eo w0 w E []:=⟨[],fun _=>rfl,List.nodup_nil,rfl,fun _ h=>by cases h⟩
theorem Eo.anti{w0:iU}{w:World}{E E':Nat→Prop}{l:List Deferred}(h:Eo w0 w E l)(he:∀k,E' k→E k):Eo w0 w E' l:=
 let⟨Ds,h0,h1,h2,h3⟩:=h;⟨Ds,h0,h1,h2,fun D hD=>⟨(h3 D hD).1,fun h=>(h3 D hD).2.1 (he D h),(h3 D hD).2.2⟩⟩
structure tR(N:Nat)(w0:iU)(X:Nat→Prop)(env:Nat→LV)(H:Nat→aX)(β:Nat→Option Nat)(a:Act)(w:World):Prop where
 defers:Eo w0 w (Ex X β H) a.defers
 size:a.tmps.size=N
 ext:ON w0 w
 xold:(∀k,X k→k<w0.w.heap.size∧¬w0.mine k)∧Cr w0.w fun k=>X k∨w0.mine k
 fresh:∀id b,(H id).live=true→β id=some b→(w0.w.heap.size≤b∨w0.mine b∧((H id).mut=true→w0.own b))∧b<w.heap.size
 inj:∀i j b,(H i).live=true→(H j).live=true→β i=some b→β j=some b→i=j
 env:∀t,R w (Ex X β H) β H (env t) (a.tmps.getD t undef)
 obj:∀id,fU w (Ex X β H) β H id
 pin:∀id∈w0.pins,cC w0.w w0.β w0.H w β H id
structure fX(w0:iU)(X:Nat→Prop)(H:Nat→aX)(β:Nat→Option Nat)(w:World):Prop where
 ext:ON w0 w
 xold:(∀k,X k→k<w0.w.heap.size∧¬w0.mine k)∧Cr w0.w fun k=>X k∨w0.mine k
 fresh:∀id b,(H id).live=true→β id=some b→(w0.w.heap.size≤b∨w0.mine b∧((H id).mut=true→w0.own b))∧b<w.heap.size
 inj:∀i j b,(H i).live=true→(H j).live=true→β i=some b→β j=some b→i=j
 obj:∀id,fU w (Ex X β H) β H id
 pin:∀id∈w0.pins,cC w0.w w0.β w0.H w β H id
theorem cY{o:aX}(h:o.mut=true):o.live=true:=by cases o<;>simp_all[aX.mut,aX.live]
end Go.Eng
namespace Go.Eng
open Go.RowKit
inductive TK where
 |none
 |int (k:IntKind)
 |bool
 |str
 |slice (e:TypeId)
 |struct (fs:List (Nat×TypeId))
 |arr (n:Nat) (e:TypeId)
 |ptr (e:TypeId)
 |map (k e:TypeId)
 |other
 deriving DecidableEq
def TK.isNone:TK→Bool
 | .none=>true
 |_=>false
def TK.isInt:TK→Bool
 | .int _=>true
 |_=>false
def TK.isPtr:TK→Bool
 | .ptr _=>true
 |_=>false
def TK.isBool:TK→Bool
 | .bool=>true
 |_=>false
def TK.isStr:TK→Bool
 | .str=>true
 |_=>false
structure lA where
 k:TK
 size:Nat
 bytes:Nat
 zero:List Value
 eqk:List TK:=[]
def TK.agg:TK→Bool
 | .struct _=>true
 | .arr _ _=>true
 |_=>false
def cN{α:Type}(f:Nat→α)(i:Nat)(x:α)(j:Nat):α:=if j=i then x else f j
def bG{α:Type}(f:Nat→α):List (Nat×α)→Nat→α
 |[],j=>f j
 |p::r,j=>if j=p.1 then p.2 else bG f r j
def pY:Value→LV
 | .bool b=>.d (.bool b)
 | .int k n=>.d (.int k n)
 | .string s=>.d (.str s.data.toList)
 | .slice none 0 0=>.nl
 | .agg _=>.junk
 | .tuple _=>.junk
 |v=>.d (.val v)
def fY:Value→LV
 | .bool b=>.d (.bool b)
 | .int k n=>.d (.int k n)
 | .string s=>.d (.str s.data.toList)
 | .slice none 0 0=>.nl
 | .agg vs=>if vs.toList.all Value.oneCell' then .agg (vs.toList.map pY)else .junk
 | .tuple _=>.junk
 |v=>.d (.val v)
def mT(env:Nat→LV):Operand→LV
 | .tmp t=>env t
 | .const v=>fY v
 | .func f=>.d (.fn f [])
 | .global n=>match globD n with
   |some cs=>.d (.ro cs)
   |none=>.junk
def fN:LV→List LV
 | .d (.agg cs)=>cs.map .d
 | .agg cs=>cs
 |x=>[x]
def uF:LV→Bool
 | .oc _ _ _ _=>true
 |_=>false
def iA(_:Nat→aX):LV→Bool
 | .d _=>true
 | .agg _=>true
 | .bx _ _=>true
 | .rp _ _ _=>true
 | .ow _ _ _=>true
 | .oc _ _ _ _=>true
 | .mp _=>true
 | .fn _ _=>true
 | .bm _ _=>true
 | .nl=>true
 |_=>false
def sO:List LV→Option (List DV)
 |[]=>some []
 | .d x::r=>(sO r).map (x::·)
 |_=>none
def mkAgg(cs:List LV):LV:=match sO cs with|some ds=>.d (.agg ds)|none=>.agg cs
def bX{α:Type}:List (Option α)→Option (List α)
 |[]=>some []
 |some x::r=>(bX r).map (x::·)
 |none::_=>none
def close(H:Nat→aX):Nat→LV→Option DV
 |0,_=>none
 |n+1,l=>match l with
  | .d x=>some x
  | .agg cs=>(bX (cs.map (close H n))).map .agg
  | .ow id k m=>match H id with
    | .row _ _ xs=>some (.sl ((xs.drop k).take m))
    |_=>none
  | .oc id k m _=>match H id with
    | .row _ _ xs=>some (.sl ((xs.drop k).take m))
    |_=>none
  | .bx id off=>match H id with
    | .box _ cs=>(bX ((cs.drop off).map (close H n))).map .ro
    |_=>none
  | .fn f cs=>(bX (cs.map (close H n))).map (.fn f)
  | .bm f cs=>(bX (cs.map (close H n))).map (.bm f)
  | .nl=>some (.sl [])
  | .mp id=>match H id with
    | .map _ ks vs=>some (.mp ks vs)
    |_=>none
  |_=>none
def bL(H:Nat→aX):Nat→LV→List Nat
 |0,_=>[]
 |n+1,l=>match l with
  | .agg cs=>cs.flatMap (bL H n)
  | .ow id _ _=>[id]
  | .oc id _ _ _=>[id]
  | .mp id=>[id]
  | .bx id off=>match H id with
    | .box _ cs=>id::(cs.drop off).flatMap (bL H n)
    |_=>[]
  | .fn _ cs=>cs.flatMap (bL H n)
  | .bm _ cs=>cs.flatMap (bL H n)
  |_=>[]
def frozen:aX→aX
 | .box _ cs=>.box true cs
 | .row _ s xs=>.row true s xs
 | .map _ ks vs=>.map true ks vs
 | .iter _ ks vs=>.iter true ks vs
 |o=>o
def aP(H:Nat→aX)(ids:List Nat):List (Nat×aX):=ids.map fun id=>(id,frozen (H id))
def kN:List (Nat×LV)→Nat→LV
 |[],_=>.junk
 |p::r,j=>if j=p.1 then p.2 else kN r j
def lG:List (Nat×aX)→Nat→aX
 |[],_=>.absent
 |p::r,j=>if j=p.1 then p.2 else lG r j
def aY(l:List (Nat×LV)):Nat→LV:=fun j=>kN l j
def aK(l:List (Nat×aX)):Nat→aX:=fun j=>lG l j
def dR:List (Nat×Nat)→Nat→Option Nat
 |[],_=>none
 |p::r,i=>if i=p.1 then some p.2 else dR r i
def ren(σ:List (Nat×Nat)):Nat→LV→LV
 |0,_=>.junk
 |n+1,l=>match l with
  | .d x=>.d x
  | .agg cs=>.agg (cs.map (ren σ n))
  | .bx id off=>match dR σ id with|some j=>.bx j off|none=>.junk
  | .rp id k j=>match dR σ id with|some i=>.rp i k j|none=>.junk
  | .ow id k m=>match dR σ id with|some i=>.ow i k m|none=>.junk
  | .oc id k m c=>match dR σ id with|some i=>.oc i k m c|none=>.junk
  | .fn f cs=>.fn f (cs.map (ren σ n))
  | .bm f cs=>.bm f (cs.map (ren σ n))
  | .tup cs=>.tup (cs.map (ren σ n))
  | .nl=>.nl
  | .mp id=>match dR σ id with|some j=>.mp j|none=>.junk
  | .it id=>match dR σ id with|some j=>.it j|none=>.junk
  |_=>.junk
def cD(σ:List (Nat×Nat)):aX→aX
 | .box fz cs=>.box fz (cs.map (ren σ 8))
 | .know x v=>.know (ren σ 8 x) v
 |o=>o
structure oZ where
 v:LV
 ok:Prop
 up:List (Nat×aX)
def oZ.fail:oZ:=⟨.junk,False,[]⟩
def oZ.plain(v:LV):oZ:=⟨v,True,[]⟩
def oZ.cond(v:LV)(c:Prop):oZ:=⟨v,c,[]⟩
def AT:DV→DV→Option Bool
 | .int j a,.int k b=>if j=k then some (decide (a=b))else none
 | .bool a,.bool b=>some (a==b)
 | .str a,.str b=>some (a==b)
 |_,_=>none
def jI:List DV→List DV→Option Bool
 |[],[]=>some true
 |a::x,b::y=>match AT a b,jI x y with
  |some p,some q=>some (p&&q)
  |_,_=>none
 |_,_=>none
def hU:TK→DV→Bool
 | .int _,.int _ _=>true
 | .bool,.bool _=>true
 | .str,.str _=>true
 |_,_=>false
def bD:List TK→List DV→Bool
 |[],[]=>true
 |k::ks,d::ds=>hU k d&&bD ks ds
 |_,_=>false
def dP(eqk:List TK)(tb:Bool)(op:BinOp)(x y:LV):oZ:=
 match x,y with
 | .d (.int k a),.d (.int k' b)=>
   match op with
   | .add=>if k=k' then(if k=.i64 then .cond (.d (.int k (a+b))) (-9223372036854775808≤a+b∧a+b≤9223372036854775807)else .plain (.d (.int k (k.wrap (a+b)))))else .fail
   | .sub=>if k=k' then(if k=.i64 then .cond (.d (.int k (a-b))) (-9223372036854775808≤a-b∧a-b≤9223372036854775807)else .plain (.d (.int k (k.wrap (a-b)))))else .fail
   | .mul=>if k=k' then(if k=.i64 then .cond (.d (.int k (a*b))) (-9223372036854775808≤a*b∧a*b≤9223372036854775807)else .plain (.d (.int k (k.wrap (a*b)))))else .fail
   | .quo=>if k=k' then(if k=.i64 then .cond (.d (.int k (a.tdiv b))) (b≠0∧ -9223372036854775808≤a.tdiv b∧a.tdiv b≤9223372036854775807)else .cond (.d (.int k (k.wrap (a.tdiv b)))) (b≠0))else .fail
   | .rem=>if k=k' then .cond (.d (.int k (a.tmod b))) (b≠0)else .fail
   | .lss=>if k=k' then .plain (.d (.bool (decide (a<b))))else .fail
   | .leq=>if k=k' then .plain (.d (.bool (decide (a≤b))))else .fail
   | .gtr=>if k=k' then .plain (.d (.bool (decide (a>b))))else .fail
   | .geq=>if k=k' then .plain (.d (.bool (decide (a≥b))))else .fail
   | .eql=>if k=k' then .plain (.d (.bool (decide (a=b))))else .fail
   | .neq=>if k=k' then .plain (.d (.bool (!decide (a=b))))else .fail
   | .shl=>.cond (.d (.int k (k.wrap (a*2^min b.toNat k.bits)))) (0≤b)
   | .shr=>.cond (.d (.int k (a.fdiv (2^min b.toNat k.bits)))) (0≤b)
   | .and=>if k=k' then .plain (.d (.int k (k.wrap (BitVec.ofInt k.bits a&&&BitVec.ofInt k.bits b).toNat)))else .fail
   | .or=>if k=k' then .plain (.d (.int k (k.wrap (BitVec.ofInt k.bits a|||BitVec.ofInt k.bits b).toNat)))else .fail
   | .xor=>if k=k' then .plain (.d (.int k (k.wrap (BitVec.ofInt k.bits a^^^BitVec.ofInt k.bits b).toNat)))else .fail
   |_=>.fail
 | .d (.str a),.d (.str b)=>
   match op with
   | .add=>.cond (.d (.str (a++b))) (a.length+b.length≤9223372036854775807)
   | .eql=>.plain (.d (.bool (a==b)))
   | .neq=>.plain (.d (.bool (!(a==b))))
   | .lss=>.plain (.d (.bool (Op.bytesLess a b)))
   | .leq=>.plain (.d (.bool (Op.bytesLess a b||a==b)))
   | .gtr=>.plain (.d (.bool (!(Op.bytesLess a b||a==b))))
   | .geq=>.plain (.d (.bool (!Op.bytesLess a b)))
   |_=>.fail
 | .d (.agg a),.d (.agg b)=>
   match op with
   | .eql=>match jI a b with|some c=>.cond (.d (.bool c)) (bD eqk a=true∧a≠[])|none=>.fail
   | .neq=>match jI a b with|some c=>.cond (.d (.bool (!c))) (bD eqk a=true∧a≠[])|none=>.fail
   |_=>.fail
 | .d (.bool a),.d (.bool b)=>
   match op with
   | .eql=>.cond (.d (.bool (a==b))) (tb=true)
   | .neq=>.cond (.d (.bool (!(a==b)))) (tb=true)
   |_=>.fail
 |_,_=>.fail
def gZ(op:BinOp)(x y:LV):oZ:=
 match op,x,y with
 | .eql,.d (.ro _),.d (.val (.pointer none))=>.plain (.d (.bool false))
 | .neq,.d (.ro _),.d (.val (.pointer none))=>.plain (.d (.bool true))
 | .eql,.d (.val (.pointer none)),.d (.val (.pointer none))=>.plain (.d (.bool true))
 | .neq,.d (.val (.pointer none)),.d (.val (.pointer none))=>.plain (.d (.bool false))
 |_,_,_=>.fail
def kW:Value→DV
 | .bool b=>.bool b
 | .int k n=>.int k n
 | .string s=>.str s.data.toList
 | .slice none 0 0=>.sl []
 |v=>.val v
def dS(t:lA):DV:=if t.k.agg then .agg (t.zero.map kW)else(t.zero.map kW).getD 0 default
def mC(a b:DV):Option Bool:=match a,b with
 | .agg x,.agg y=>jI x y
 |a,b=>AT a b
def kR(k:DV):List DV→Nat→Option (Option Nat)
 |[],_=>some none
 |x::r,i=>match mC k x with
  |some true=>some (some i)
  |some false=>kR k r (i+1)
  |none=>none
def TK.isStruct:TK→Bool
 | .struct _=>true
 |_=>false
def mU(t:lA)(d:DV):Bool:=match d with
 | .agg ks=>bD t.eqk ks&& !ks.isEmpty&&t.k.isStruct
 |d=>hU t.k d
def nC(H:Nat→aX):LV→Option (List DV×List DV)
 | .d (.mp ks vs)=>some (ks,vs)
 | .mp id=>match H id with
   | .map _ ks vs=>some (ks,vs)
   |_=>none
 |_=>none
def pH(T:TypeId→lA)(H:Nat→aX)(t:TypeId)(x i:LV)(ok:Bool):oZ:=
 match(T t).k,nC H x,i with
 | .map kt et,some (ks,vs),.d k=>match kR k ks 0 with
   |some (some j)=>.cond (if ok then .tup [.d (vs.getD j default),.d (.bool true)]else .d (vs.getD j default)) (mU (T kt) k=true)
   |some none=>.cond (if ok then .tup [.d (dS (T et)),.d (.bool false)]else .d (dS (T et))) (mU (T kt) k=true∧(T et).k.isNone=false)
   |none=>.fail
 |_,_,_=>.fail
def iD(T:TypeId→lA)(H:Nat→aX)(t:TypeId)(m k x:LV):oZ:=
 match(T t).k,m,k,x with
 | .map kt _,.mp id,.d k,.d v=>match H id with
   | .map false ks vs=>match kR k ks 0 with
     |some (some j)=>⟨.junk,mU (T kt) k=true,[(id,.map false ks (vs.set j v))]⟩
     |some none=>⟨.junk,mU (T kt) k=true,[(id,.map false (ks++[k]) (vs++[v]))]⟩
     |none=>.fail
   |_=>.fail
 |_,_,_,_=>.fail
def cK(T:TypeId→lA)(H:Nat→aX)(t:TypeId)(m k x:LV):oZ:=
 match x with
 | .d v=>iD T H t m k (.d v)
 |x=>match close H 8 x with
  |some v=>⟨(iD T (bG H (aP H (bL H 8 x))) t m k (.d v)).v,(iD T (bG H (aP H (bL H 8 x))) t m k (.d v)).ok,(iD T (bG H (aP H (bL H 8 x))) t m k (.d v)).up++aP H (bL H 8 x)⟩
  |none=>.fail
def pI(T:TypeId→lA)(H:Nat→aX)(t:TypeId)(m k:LV):oZ:=
 match(T t).k,m,k with
 | .map kt _,.mp id,.d k=>match H id with
   | .map false ks vs=>match kR k ks 0 with
     |some (some j)=>⟨.junk,mU (T kt) k=true,[(id,.map false (ks.eraseIdx j) (vs.eraseIdx j))]⟩
     |some none=>⟨.junk,mU (T kt) k=true,[(id,.map false ks vs)]⟩
     |none=>.fail
   |_=>.fail
 |_,_,_=>.fail
def cL(H:Nat→aX)(dst:Nat):oZ:=⟨.mp dst,H dst=.absent,[(dst,.map false [] [])]⟩
def eA(H:Nat→aX)(dst:Nat):LV→oZ
 | .d (.mp ks vs)=>⟨.it dst,H dst=.absent,[(dst,.iter false ks vs)]⟩
 |_=>.fail
def lW(op:UnOp)(x:LV):oZ:=
 match op,x with
 | .not,.d (.bool b)=>.plain (.d (.bool (!b)))
 | .xor,.d (.int k n)=>.plain (.d (.int k (k.wrap (BitVec.ofInt k.bits (if k.signed then -1 else k.max)^^^BitVec.ofInt k.bits n).toNat)))
 | .neg,.d (.int k n)=>if k=.i64 then .cond (.d (.int k (0-n))) (-9223372036854775808≤0-n∧0-n≤9223372036854775807)else .plain (.d (.int k (k.wrap (0-n))))
 |_,_=>.fail
def tP:LV→Bool
 | .when _ (.d (.bool x))=>x
 | .d (.bool x)=>x
 |_=>false
def Ee:LV→Bool
 | .when e (.d (.bool _))=>e
 | .d (.bool _)=>true
 |_=>false
def eJ(c a b:LV):oZ:=
 match c with
 | .d (.bool p)=>.cond (.d (.bool (bif p then tP a else tP b))) ((p=true→Ee a=true)∧(p=false→Ee b=true))
 |_=>.fail
def oK(agg:Bool)(s off:Nat)(cs:List LV):LV:=if agg then mkAgg ((cs.drop off).take s)else cs.getD off .junk
def nH(agg:Bool)(s off:Nat)(cs:List DV):DV:=if agg then .agg ((cs.drop off).take s)else cs.getD off default
def eK(H:Nat→aX)(t:lA)(x:LV):oZ:=
 match x with
 | .bx id off=>match H id with
   | .box _ cs=>.cond (oK t.k.agg t.size off cs) (off+t.size≤cs.length∧(t.k.agg=false→t.size=1))
   |_=>.fail
 | .d (.ro cs)=>.cond (.d (nH t.k.agg t.size 0 cs)) (t.size≤cs.length∧(t.k.agg=false→t.size=1))
 | .rp id k j=>match H id with
   | .row _ _ xs=>.cond (.d (nH t.k.agg t.size j (aE (xs.getD k default)))) (k<xs.length∧j+t.size≤(aE (xs.getD k default)).length∧(t.k.agg=false→t.size=1))
   |_=>.fail
 |_=>.fail
def cU{α:Type}(off:Nat)(cs new:List α):List α:=cs.take off++new++cs.drop (off+new.length)
def cW(H:Nat→aX)(t:lA)(x y:LV):oZ:=
 match x with
 | .bx id off=>match H id with
   | .box false cs=>⟨.junk,off+t.size≤cs.length∧(fN y).length=t.size∧iA H y=true,[(id,.box false (cU off cs (fN y)))]⟩
   |_=>.fail
 | .rp id k j=>match H id with
   | .row false s xs=>match close H 8 y with
     |some z=>if j=0∧t.size=s then⟨.junk,k<xs.length∧(aE z).length=s∧id∉bL H 8 y,(id,.row false s (xs.set k z))::aP H (bL H 8 y)⟩
       else⟨.junk,k<xs.length∧j+t.size≤s∧(aE z).length=t.size∧1<s∧id∉bL H 8 y,(id,.row false s (xs.set k (.agg (cU j (aE (xs.getD k default)) (aE z)))))::aP H (bL H 8 y)⟩
     |none=>.fail
   |_=>.fail
 |_=>.fail
def lB(i:Nat):List (Nat×LV)→Option LV
 |[]=>none
 |p::r=>if p.1=i then some p.2 else lB i r
def nI(fs:List (Nat×TypeId))(T:TypeId→lA):List LV→List (Nat×LV)→Option (List LV)
 |cs,[]=>some cs
 |cs,(i,x)::r=>match fs[i]? with
  |none=>none
  |some (off,ty)=>if(fN x).length=(T ty).size∧off+(T ty).size≤cs.length then nI fs T (cU off cs (fN x)) r else none
def eE(T:TypeId→lA)(H:Nat→aX)(t:TypeId)(ps:List (Nat×LV)):oZ:=
 match(T t).k with
 | .struct fs=>match nI fs T ((T t).zero.map fY) ps with
   |some cs=>.cond (mkAgg cs) (∀p∈ps,iA H p.2=true)
   |none=>.fail
 | .arr n e=>match nI ((List.range n).map fun i=>(i*(T e).size,e)) T ((T t).zero.map fY) ps with
   |some cs=>.cond (mkAgg cs) (∀p∈ps,iA H p.2=true)
   |none=>.fail
 |_=>.fail
def bE(T:TypeId→lA)(H:Nat→aX)(dst:Nat)(t:TypeId)(n:Nat)(ps:List (Nat×LV)):oZ:=
 match(T t).k with
 | .slice e=>match bX (ps.map fun p=>close H 8 p.2)with
   |some xs=>⟨.ow dst 0 n,H dst=.absent∧ps.map (·.1)=List.range n∧0<(T e).size∧(∀x∈xs,(aE x).length=(T e).size)∧n*(T e).size≤16777216,
     (dst,.row false (T e).size xs)::aP H (ps.flatMap fun p=>bL H 8 p.2)⟩
   |none=>.fail
 |_=>.fail
def bA(T:TypeId→lA)(H:Nat→aX)(dst:Nat)(t:TypeId)(n:Nat)(ps:List (Nat×LV)):oZ:=
 match(T t).k with
 | .slice e=>match bX (ps.map fun p=>close H 8 p.2)with
   |some xs=>⟨.oc dst 0 n n,H dst=.absent∧ps.map (·.1)=List.range n∧0<(T e).size∧(∀x∈xs,(aE x).length=(T e).size)∧n*(T e).size≤16777216,
     (dst,.row false (T e).size xs)::aP H (ps.flatMap fun p=>bL H 8 p.2)⟩
   |none=>.fail
 |_=>.fail
def dG(T:TypeId→lA)(H:Nat→aX)(s:TypeId)(x:LV)(f:Nat):oZ:=
 match(T s).k with
 | .struct fs=>match fs[f]? with
   |some (off,ty)=>match x with
    | .bx id o=>.cond (.bx id (o+off)) ((T ty).size≠0∧(H id).live=true)
    | .rp id k j=>.cond (.rp id k (j+off)) ((T ty).size≠0∧(H id).live=true)
    | .d (.ro cs)=>.cond (.d (.ro (cs.drop off))) ((T ty).size≠0)
    |_=>.fail
   |none=>.fail
 |_=>.fail
def Aa(T:TypeId→lA)(s:TypeId)(x:LV)(f:Nat):oZ:=
 match(T s).k with
 | .struct fs=>match fs[f]? with
   |some (off,ty)=>match x with
    | .d (.agg cs)=>.cond (.d (nH (T ty).k.agg (T ty).size off cs)) (off+(T ty).size≤cs.length∧((T ty).k.agg=false→(T ty).size=1))
    | .agg cs=>.cond (oK (T ty).k.agg (T ty).size off cs) (off+(T ty).size≤cs.length∧((T ty).k.agg=false→(T ty).size=1))
    |_=>.fail
   |none=>.fail
 |_=>.fail
def bK(T:TypeId→lA)(H:Nat→aX)(t:TypeId)(x i:LV):oZ:=
 match(T t).k,x,i with
 | .slice e,.d (.sl xs),.d (.int _ i)=>.cond (.d (.ro (aE (xs.getD i.toNat default)))) (0≤i∧i<xs.length∧(aE (xs.getD i.toNat default)).length=(T e).size)
 | .slice e,.ow id k n,.d (.int _ i)=>match H id with
   | .row _ s _=>.cond (.rp id (k+i.toNat) 0) (0≤i∧i<n∧s=(T e).size)
   |_=>.fail
 | .slice e,.oc id k n _,.d (.int _ i)=>match H id with
   | .row _ s _=>.cond (.rp id (k+i.toNat) 0) (0≤i∧i<n∧s=(T e).size)
   |_=>.fail
 | .arr n e,.bx id off,.d (.int _ i)=>.cond (.bx id (off+i.toNat*(T e).size)) (0≤i∧i<n∧(H id).live=true)
 | .arr n e,.rp id k j,.d (.int _ i)=>.cond (.rp id k (j+i.toNat*(T e).size)) (0≤i∧i<n∧(H id).live=true)
 | .arr n e,.d (.ro cs),.d (.int _ i)=>.cond (.d (.ro (cs.drop (i.toNat*(T e).size)))) (0≤i∧i<n)
 |_,_,_=>.fail
def bJ(T:TypeId→lA)(t:TypeId)(x i:LV):oZ:=
 match(T t).k,x,i with
 | .str,.d (.str s),.d (.int _ i)=>.cond (.d (.int .u8 (s.getD i.toNat 0).toNat)) (0≤i∧i<s.length)
 | .arr n e,.d (.agg cs),.d (.int _ i)=>.cond (.d (nH (T e).k.agg (T e).size (i.toNat*(T e).size) cs)) (0≤i∧i<n∧i.toNat*(T e).size+(T e).size≤cs.length∧((T e).k.agg=false→(T e).size=1))
 |_,_,_=>.fail
def pD:Nat→Nat→List DV→List DV
 |0,_,_=>[]
 |n+1,s,cs=>.agg (cs.take s)::pD n s (cs.drop s)
def iE(d:Int):Option LV→Option Int
 |none=>some d
 |some (.d (.int _ i))=>some i
 |_=>none
def dH(T:TypeId→lA)(H:Nat→aX)(t:TypeId)(x:LV)(lo hi mx:Option LV):oZ:=
 match(T t).k,x with
 | .str,.d (.str s)=>match iE 0 lo,iE s.length hi,mx with
   |some l,some h,none=>.cond (.d (.str ((s.take h.toNat).drop l.toNat))) (0≤l∧l≤h∧h≤s.length)
   |_,_,_=>.fail
 | .slice e,.d (.sl xs)=>match iE 0 lo,iE xs.length hi,mx with
   |some l,some h,none=>.cond (.d (.sl ((xs.take h.toNat).drop l.toNat))) (0≤l∧l≤h∧h≤xs.length∧∀x∈xs,(aE x).length=(T e).size)
   |some l,some h,some (.d (.int _ m))=>.cond .nl (l=0∧h=0∧m=0)
   |_,_,_=>.fail
 | .slice e,.ow id k n=>match H id with
   | .row _ s xs=>match iE 0 lo,iE n hi,mx with
     |some l,some h,none=>.cond (.ow id (k+l.toNat) (h-l).toNat) (0≤l∧l≤h∧(h≤n∨k+h≤xs.length)∧s=(T e).size)
     |some l,some h,some (.d (.int _ m))=>.cond .nl (l=0∧h=0∧m=0)
     |_,_,_=>.fail
   |_=>.fail
 | .slice _,.nl=>match iE 0 lo,iE 0 hi,mx with
   |some l,some h,none=>.cond .nl (l=0∧h=0)
   |_,_,_=>.fail
 | .slice e,.oc id k n c=>match H id with
   | .row _ s _=>match iE 0 lo,iE n hi,mx with
     |some l,some h,none=>.cond (.oc id (k+l.toNat) (h-l).toNat (c-l.toNat)) (0≤l∧l≤h∧h≤c∧s=(T e).size)
     |_,_,_=>.fail
   |_=>.fail
 | .arr n e,.d (.ro cs)=>match lo,hi,mx with
   |none,none,none=>if(T e).k.agg then .cond (.d (.sl (pD n (T e).size cs))) (0<n∧n≤1000∧0<(T e).size∧n*(T e).size≤cs.length∧(T e).k.isNone=false)
    else .cond (.d (.sl (cs.take n))) (0<n∧n≤1000∧(T e).size=1∧n≤cs.length∧(T e).k.isNone=false∧∀x∈cs.take n,(aE x).length=1)
   |none,some (.d (.int _ h)),none=>if(T e).k.agg then .fail
    else .cond (.d (.sl (cs.take h.toNat))) (0<h∧h≤n∧n≤1000∧(T e).size=1∧n≤cs.length∧(T e).k.isNone=false∧∀x∈cs.take n,(aE x).length=1)
   |_,_,_=>.fail
 |_,_=>.fail
def cH(H:Nat→aX):LV→Option (List DV)
 | .d (.sl xs)=>some xs
 | .d (.str s)=>some (s.map fun b=>.int .u8 b.toNat)
 | .nl=>some []
 | .ow id k n=>match H id with
   | .row _ _ xs=>some ((xs.drop k).take n)
   |_=>none
 | .oc id k n _=>match H id with
   | .row _ _ xs=>some ((xs.drop k).take n)
   |_=>none
 |_=>none
def bR(T:TypeId→lA)(H:Nat→aX)(dst:Nat)(t:TypeId)(s x:LV):oZ:=
 match(T t).k,cH H x,s with
 | .slice e,some ys,.oc id k n c=>match H id with
   | .row false sz xs=>if n+ys.length≤c then⟨.oc id k (n+ys.length) c,sz=(T e).size∧∀y∈ys,(aE y).length=sz,[(id,.row false sz (cU (k+n) xs ys))]⟩
     else⟨.ow dst 0 (n+ys.length),H dst=.absent∧sz=(T e).size∧(∀y∈ys,(aE y).length=sz)∧(n+ys.length)*(T e).bytes≤140737488355328∧n+ys.length≤140737488355328,[(dst,.row false sz ((xs.drop k).take n++ys))]⟩
   |_=>.fail
 |_,_,_=>.fail
def bM(T:TypeId→lA)(H:Nat→aX)(dst:Nat)(t:TypeId)(lo c:Nat)(s x:LV):oZ:=
 match(T t).k,cH H x,s with
 | .slice e,some ys,.nl=>⟨.oc dst 0 ys.length c,H dst=.absent∧0<(T e).size∧(∀y∈ys,(aE y).length=(T e).size)∧ys.length*(T e).bytes≤140737488355328∧ys.length≤140737488355328∧lo=ys.length,
     [(dst,.row false (T e).size (ys++List.replicate (c-ys.length) (dS (T e))))]⟩
 | .slice e,some ys,.oc id _ n cs=>⟨.oc dst 0 ys.length c,(H id).live=true∧n=0∧cs=0∧H dst=.absent∧0<(T e).size∧(∀y∈ys,(aE y).length=(T e).size)∧ys.length*(T e).bytes≤140737488355328∧ys.length≤140737488355328∧lo=ys.length,
     [(dst,.row false (T e).size (ys++List.replicate (c-ys.length) (dS (T e))))]⟩
 |_,_,_=>.fail
def mJ(T:TypeId→lA)(H:Nat→aX)(dst:Nat)(t:TypeId)(lo c:Nat)(v:Value)(s x:LV):oZ:=
 ⟨.d (.val v),(bM T H dst t lo c s x).ok∧H (dst+1000)=.absent,(dst+1000,.know (bM T H dst t lo c s x).v v)::(bM T H dst t lo c s x).up⟩
def nJ(T:TypeId→lA)(H:Nat→aX)(dst:Nat)(t:TypeId)(kid:Nat)(s x:LV):oZ:=
 match H kid,s with
 | .know (.oc id k n c) v,.d (.val v')=>⟨(bR T H dst t (.oc id k n c) x).v,v'=v∧(bR T H dst t (.oc id k n c) x).ok,(bR T H dst t (.oc id k n c) x).up⟩
 |_,_=>.fail
def cB(T:TypeId→lA)(H:Nat→aX)(dst:Nat)(t:TypeId)(s x:LV):oZ:=
 match(T t).k,s,x with
 | .slice e,.nl,.d (.int _ m)=>⟨.ow dst 0 m.toNat,H dst=.absent∧0<m∧0<(T e).size∧m.toNat*(T e).bytes≤140737488355328∧m.toNat≤140737488355328,[(dst,.row false (T e).size (List.replicate m.toNat (dS (T e))))]⟩
 | .slice e,.oc id k n c,.d (.int _ m)=>match H id with
   | .row false sz xs=>⟨.ow dst 0 (n+m.toNat),H dst=.absent∧0<m∧c<n+m.toNat∧sz=(T e).size∧(n+m.toNat)*(T e).bytes≤140737488355328∧n+m.toNat≤140737488355328,[(dst,.row false sz ((xs.drop k).take n++List.replicate m.toNat (dS (T e))))]⟩
   |_=>.fail
 |_,_,_=>.fail
def cO(T:TypeId→lA)(H:Nat→aX)(dst:Nat)(t:TypeId)(s x:LV):oZ:=
 match(T t).k,cH H x with
 | .slice e,some ys=>match s with
   | .ow id k n=>match H id with
     | .row false sz xs=>⟨.ow dst 0 (n+ys.length),H dst=.absent∧k=0∧sz=(T e).size∧(∀y∈ys,(aE y).length=sz)∧(n+ys.length)*(T e).bytes≤140737488355328∧n+ys.length≤140737488355328,
         [(dst,.row false sz (xs.take n++ys)),(id,.dead)]⟩
     |_=>.fail
   | .nl=>⟨.ow dst 0 ys.length,H dst=.absent∧0<(T e).size∧(∀y∈ys,(aE y).length=(T e).size)∧ys.length*(T e).bytes≤140737488355328∧ys.length≤140737488355328,[(dst,.row false (T e).size ys)]⟩
   |_=>.fail
 |_,_=>.fail
def bT(T:TypeId→lA)(H:Nat→aX)(t:TypeId)(s x:LV):oZ:=
 match(T t).k,cH H x,s with
 | .slice e,some ys,.ow id k n=>match H id with
   | .row false sz xs=>⟨.ow id k (n+ys.length),sz=(T e).size∧(∀y∈ys,(aE y).length=sz)∧k+n+ys.length≤xs.length,[(id,.row false sz (cU (k+n) xs ys))]⟩
   |_=>.fail
 |_,_,_=>.fail
def hF(T:TypeId→lA)(H:Nat→aX)(t:TypeId)(x:LV)(lo hi mx:Option LV):oZ:=
 match(T t).k,x with
 | .slice _,.ow id _ n=>match iE 0 lo,iE n hi,mx with
   |some l,some h,some (.d (.int _ m))=>.cond .junk (0≤l∧l≤h∧h≤m∧m≤n∧(H id).live=true)
   |_,_,_=>.fail
 | .slice e,.d (.sl xs)=>match iE 0 lo,iE xs.length hi,mx with
   |some l,some h,some (.d (.int _ m))=>.cond (.d (.sl ((xs.take h.toNat).drop l.toNat))) (0≤l∧l≤h∧h≤m∧m≤xs.length∧∀x∈xs,(aE x).length=(T e).size)
   |_,_,_=>.fail
 | .slice e,.oc id k n c=>match H id with
   | .row _ s _=>match iE 0 lo,iE n hi,mx with
     |some l,some h,some (.d (.int _ m))=>.cond (.oc id (k+l.toNat) (h-l).toNat (m-l).toNat) (0≤l∧l≤h∧h≤m∧m≤c∧s=(T e).size)
     |_,_,_=>.fail
   |_=>.fail
 |_,_=>.fail
def dI(T:TypeId→lA)(H:Nat→aX)(t:TypeId)(x:LV):oZ:=
 match(T t).k,x with
 | .slice e,.ow id k n=>match H id with
   | .row false sz xs=>⟨.tup [],sz=(T e).size∧k+n≤xs.length,[(id,.row false sz (cU k xs (List.replicate n (dS (T e)))))]⟩
   |_=>.fail
 | .slice e,.oc id k n _=>match H id with
   | .row false sz xs=>⟨.tup [],sz=(T e).size∧k+n≤xs.length,[(id,.row false sz (cU k xs (List.replicate n (dS (T e)))))]⟩
   |_=>.fail
 |_,_=>.fail
def eL(T:TypeId→lA)(H:Nat→aX)(t:TypeId)(d s:LV):oZ:=
 match(T t).k,cH H s,d with
 | .slice e,some ys,.ow id k n=>match H id with
   | .row false sz xs=>⟨.d (.int .i64 ys.length),sz=(T e).size∧(∀y∈ys,(aE y).length=sz)∧ys.length≤n∧k+n≤xs.length,[(id,.row false sz (cU k xs ys))]⟩
   |_=>.fail
 |_,_,_=>.fail
def lJ(n:Nat):LV→LV
 | .oc j k m c=>.oc j k (min m n) c
 |x=>x
def dJ(T:TypeId→lA)(H:Nat→aX)(t:TypeId)(d s:LV):oZ:=
 match(T t).k,d with
 | .slice e,.oc id k n _=>match cH H (lJ n s),H id with
   |some ys,.row false sz xs=>⟨.d (.int .i64 ys.length),sz=(T e).size∧(∀y∈ys,(aE y).length=sz)∧ys.length≤n∧k+n≤xs.length,[(id,.row false sz (cU k xs ys))]⟩
   |_,_=>.fail
 |_,_=>.fail
def eM(T:TypeId→lA)(H:Nat→aX)(dst:Nat)(t:TypeId)(n c:LV):oZ:=
 match(T t).k,n,c with
 | .slice e,.d (.int _ n),.d (.int _ c)=>⟨.ow dst 0 n.toNat,H dst=.absent∧0≤n∧n=c∧n≤16777216∧0<(T e).size∧n*(T e).bytes≤140737488355328,[(dst,.row false (T e).size (List.replicate n.toNat (dS (T e))))]⟩
 |_,_,_=>.fail
def fV(op:BinOp)(x y:LV):oZ:=
 match x,y with
 | .d (.int k a),.d (.int k' b)=>match op with
   | .add=>.cond (.d (.int k (k.wrap (a+b)))) (k=k')
   | .sub=>.cond (.d (.int k (k.wrap (a-b)))) (k=k')
   | .mul=>.cond (.d (.int k (k.wrap (a*b)))) (k=k')
   |_=>.fail
 |_,_=>.fail
def eN(T:TypeId→lA)(H:Nat→aX)(t:TypeId)(x:LV):oZ:=
 match(T t).k,x with
 | .slice _,.oc id _ _ c=>.cond (.d (.int .i64 c)) ((H id).live=true)
 | .slice _,.nl=>.plain (.d (.int .i64 0))
 |_,_=>.fail
def sA(H:Nat→aX):LV→Option Nat
 | .d (.sl xs)=>some xs.length
 | .nl=>some 0
 | .ow id _ n=>if(H id).live then some n else none
 |_=>none
def eS(T:TypeId→lA)(H:Nat→aX)(t:TypeId)(lo c:Nat)(x:LV):oZ:=
 match(T t).k,x with
 | .slice _,.d (.sl xs)=>.cond (.d (.int .i64 c)) (lo≤xs.length)
 | .slice _,.nl=>.cond (.d (.int .i64 c)) (lo=0)
 | .slice _,.ow id k _=>match H id with
   | .row _ _ xs=>.cond (.d (.int .i64 c)) (lo≤xs.length-k)
   |_=>.fail
 |_,_=>.fail
def lX:Operand→Bool
 | .const (.slice none 0 0)=>true
 |_=>false
def fO(T:TypeId→lA)(H:Nat→aX)(t:TypeId)(e b:Bool)(op:BinOp)(x:LV):oZ:=
 match(T t).k,op,sA H x with
 | .slice _,.eql,some n=>.cond (.d (.bool b)) (n=0→e=true)
 | .slice _,.neq,some n=>.cond (.d (.bool (!b))) (n=0→e=true)
 |_,_,_=>.fail
def hO(T:TypeId→lA)(H:Nat→aX)(t:TypeId)(x:LV):oZ:=
 match(T t).k,x with
 | .str,.d (.str s)=>.plain (.d (.int .i64 s.length))
 | .slice _,.d (.sl xs)=>.plain (.d (.int .i64 xs.length))
 | .slice _,.ow id _ n=>.cond (.d (.int .i64 n)) ((H id).live=true)
 | .slice _,.oc id _ n _=>.cond (.d (.int .i64 n)) ((H id).live=true)
 | .slice _,.nl=>.plain (.d (.int .i64 0))
 | .arr n _,_=>.plain (.d (.int .i64 n))
 | .map _ _,.d (.mp ks _)=>.plain (.d (.int .i64 ks.length))
 | .map _ _,.mp id=>match H id with
   | .map _ ks _=>.plain (.d (.int .i64 ks.length))
   |_=>.fail
 |_,_=>.fail
def iW(mx:Bool):List LV→oZ
 |[.d (.int k a),.d (.int k' b)]=>if k=k' then .plain (.d (.int k (if mx then(if b>a then b else a)else(if b<a then b else a))))else .fail
 |_=>.fail
def dO(x:LV)(i:Nat):oZ:=
 match x with
 | .tup vs=>.cond (vs.getD i .junk) (i<vs.length)
 |_=>.fail
def kP(H:Nat→aX):LV→Option (List DV)
 | .d (.str _)=>none
 |l=>cH H l
def Ic:DV→UInt8
 | .int _ n=>UInt8.ofNat n.toNat
 |_=>0
def eO(T:TypeId→lA)(H:Nat→aX)(s t:TypeId)(x:LV):oZ:=
 match(T s).k,(T t).k,x with
 | .int _,.int k,.d (.int _ n)=>.plain (.d (.int k (k.wrap n)))
 | .str,.str,.d (.str s)=>.plain (.d (.str s))
 | .slice e,.str,x=>match(T e).k,kP H x with
   | .int .u8,some ys=>.cond (.d (.str (ys.map Ic))) (∀y∈ys,∃n,y=.int .u8 n)
   |_,_=>.fail
 |_,_,_=>.fail
inductive RV where
 |d (x:DV)
 |own (size:Nat) (xs:List DV)
 |tup (vs:List RV)
 deriving Inhabited
structure Mn where
 v:RV
 fresh:Bool
def oP(d:Nat):RV→LV
 | .d x=>.d x
 | .own _ xs=>.ow d 0 xs.length
 | .tup _=>.junk
def iF(d:Nat):RV→List (Nat×aX)
 | .own s xs=>[(d,.row false s xs)]
 |_=>[]
def iZ:Nat→List RV→List LV
 |_,[]=>[]
 |d,v::r=>oP d v::iZ (d+1000) r
def bS:Nat→List RV→List (Nat×aX)
 |_,[]=>[]
 |d,v::r=>iF d v++bS (d+1000) r
end Go.Eng
namespace Go.Eng
open Go.RowKit
def AU(w w':World)(E:Nat→Prop)(B:Option Nat):RV→Value→Prop
 | .d x,v=>RD w' E x v
 | .own s xs,v=>0<s∧(∀x∈xs,(aE x).length=s)∧((B=none∧xs=[]∧∃a,v=.slice a 0 0)∨
     ∃b c cur e,B=some b∧v=.slice (some ⟨b,0,none⟩) xs.length c∧w.heap.size≤b∧w'.heap[b]? =some (.cells cur e (0,0))∧xs.length≤c∧c≤maxLen∧c*s=cur.size∧
      ∀(i:Nat) (d:DV) (v:Value),(bO xs)[i]? =some d→cur[i]? =some v→v.oneCell'=true∧RD w' E d v)
 | .tup _,_=>False
def Gn(w w':World)(E:Nat→Prop)(r:RV)(v:Value):Prop:=
 match r with
 | .tup rs=>∃(vs:List Value) (B:Nat→Option Nat),v=.tuple vs.toArray∧vs.length=rs.length∧(∀i j b,B i=some b→B j=some b→i=j)∧
     ∀(i:Nat) (r:RV) (v:Value),rs[i]? =some r→vs[i]? =some v→AU w w' (fun k=>E k∨∃j,B j=some k) (B i) r v
 |r=>∃B:Option Nat,AU w w' (fun k=>E k∨B=some k) B r v
def wQ(P:Program)(f:FuncId):Prop:=∃fn,P.funcs[f]? =some fn∧(fn.name== "runtime.NumGoroutine")=false∧fn.body.isSome=true
def Ok(P:Program)(f:FuncId)(args:List DV)(r:Mn):Prop:=
 wQ P f∧∀(w:World) (X:Nat→Prop) (vs:List Value),Rj w X→Qm w X args vs→
  Calls P f vs.toArray w fun e w'=>∃v,e=.returned v∧En w.heap.size w w'∧Gn w w' (fun k=>X k∨(r.fresh=true∧k<w.heap.size)) r.v v
def Qg(P:Program)(f:FuncId)(args:List DV)(Rel:Mn→Prop):Prop:=
 wQ P f∧∀(w:World) (X:Nat→Prop) (vs:List Value),Rj w X→Qm w X args vs→
  Calls P f vs.toArray w fun e w'=>∃v r,Rel r∧e=.returned v∧En w.heap.size w w'∧Gn w w' (fun k=>X k∨(r.fresh=true∧k<w.heap.size)) r.v v
theorem Ok.toR{P:Program}{f:FuncId}{args:List DV}{r:Mn}(h:Ok P f args r):Qg P f args (fun r'=>r'=r):=
 ⟨h.1,fun w X vs hX hr=>(h.2 w X vs hX hr).mono fun _ _ ⟨v,h1,h2,h3⟩=>⟨v,r,rfl,h1,h2,h3⟩⟩
theorem Qg.mono{P:Program}{f:FuncId}{args:List DV}{Rel Rel':Mn→Prop}(h:Qg P f args Rel)(hr:∀r,Rel r→Rel' r):Qg P f args Rel':=
 ⟨h.1,fun w X vs hX hv=>(h.2 w X vs hX hv).mono fun _ _ ⟨v,r,h0,h1,h2,h3⟩=>⟨v,r,hr r h0,h1,h2,h3⟩⟩
def bV:LV→Option (FuncId×List LV)
 | .d (.fn f cs)=>some (f,cs.map .d)
 | .fn f cs=>some (f,cs)
 | .d (.bm f _)=>some (f,[])
 | .bm f _=>some (f,[])
 |_=>none
def bZ:LV→List LV
 | .d (.bm _ cs)=>cs.map .d
 | .bm _ cs=>cs
 |_=>[]
def nK(d:Nat):RV→LV
 | .tup vs=>.tup (iZ d vs)
 |v=>oP d v
def eT(d:Nat):RV→List (Nat×aX)
 | .tup vs=>bS d vs
 |v=>iF d v
def qR(P:Program)(f:FuncId)(args:List LV)(h:List (Nat×aX))(fin:List (Nat×aX))(ret:LV):Prop:=
 wQ P f∧∀(w:World) (X:Nat→Prop) (β:Nat→Option Nat) (vs:List Value),fX ⟨w,β,aK h,h.map (·.1),false⟩ X (aK h) β w→vs.length=args.length→
  (∀(i:Nat) (c:LV) (v:Value),args[i]? =some c→vs[i]? =some v→R w (Ex X β (aK h)) β (aK h) c v)→
  Calls P f vs.toArray w fun e w'=>∃v β',e=.returned v∧fX ⟨w,β,aK h,h.map (·.1),false⟩ X (aK fin) β' w'∧R w' (Ex X β' (aK fin)) β' (aK fin) ret v
def Mo(P:Program)(f:FuncId)(args:List LV)(h:List (Nat×aX))(Rel:List (Nat×aX)→LV→Prop):Prop:=
 wQ P f∧∀(w:World) (X:Nat→Prop) (β:Nat→Option Nat) (vs:List Value),fX ⟨w,β,aK h,h.map (·.1),false⟩ X (aK h) β w→vs.length=args.length→
  (∀(i:Nat) (c:LV) (v:Value),args[i]? =some c→vs[i]? =some v→R w (Ex X β (aK h)) β (aK h) c v)→
  Calls P f vs.toArray w fun e w'=>∃v β' fin ret,Rel fin ret∧e=.returned v∧fX ⟨w,β,aK h,h.map (·.1),false⟩ X (aK fin) β' w'∧R w' (Ex X β' (aK fin)) β' (aK fin) ret v
theorem qR.toR{P:Program}{f:FuncId}{args:List LV}{h fin:List (Nat×aX)}{ret:LV}(k:qR P f args h fin ret):Mo P f args h (fun fin' ret'=>fin'=fin∧ret'=ret):=
 ⟨k.1,fun w X β vs m hl hr=>(k.2 w X β vs m hl hr).mono fun _ _ ⟨v,β',h1,h2,h3⟩=>⟨v,β',fin,ret,⟨rfl,rfl⟩,h1,h2,h3⟩⟩
structure RT where
 σ:List (Nat×Nat)
 new:List (Nat×Nat)
 shut:List Nat
 fin:List (Nat×aX)
 ret:LV
inductive sH where
 |plain (r:Mn)
 |gen (g:RT)
 |inp
 |wrap
 |cap (lo c:Nat)
 |app (lo c:Nat)
 |appv (lo c:Nat) (v:Value)
 |tie (kid:Nat)
 |nil (e b:Bool)
 |rel (Rel:Mn→Prop) (fr:Bool) (r:Mn)
 |genR (g:RT) (Rel:List (Nat×aX)→LV→Prop)
def Ab:Option sH→Option sH→Prop
 |some (.cap lo _),r'=>∃c,lo≤c∧c≤maxLen∧r'=some (.cap lo c)
 |some (.app lo _),r'=>∃c,lo≤c∧c≤maxLen∧r'=some (.app lo c)
 |some (.appv lo _ _),r'=>∃c v,lo≤c∧c≤maxLen∧r'=some (.appv lo c v)
 |some (.nil e _),r'=>∃b,(b=true→e=true)∧r'=some (.nil e b)
 |some (.rel Rel fr _),r'=>∃r,Rel r∧r.fresh=fr∧r'=some (.rel Rel fr r)
 |some (.genR g Rel),r'=>∃fin ret,Rel fin ret∧r'=some (.genR {g with fin:=fin,ret:=ret} Rel)
 |r,r'=>r'=r
def nD:Option sH→Bool
 |some .inp=>true
 |_=>false
def iV(σ new:List (Nat×Nat)):List (Nat×Nat):=(σ.map fun p=>(p.2,p.1))++new
def jE(H:Nat→aX)(σ:List (Nat×Nat))(shut:List Nat):Nat→List LV→Option (List LV)
 |_,[]=>some []
 |i,l::r=>match jE H σ shut (i+1) r with
  |none=>none
  |some r'=>if shut.contains i then(close H 8 l).map (fun x=>.d x::r')else some (ren σ 8 l::r')
def jF(H:Nat→aX)(shut:List Nat):Nat→List LV→List Nat
 |_,[]=>[]
 |i,l::r=>(if shut.contains i then bL H 8 l else [])++jF H shut (i+1) r
def bP(P:Program)(H:Nat→aX)(r:Option sH)(dst:Nat)(callee:LV)(args:List LV):oZ:=
 match bV callee,r with
 |some (f,caps),some (.plain r)=>match bX ((args++caps).map (close H 8))with
  |some as=>⟨nK dst r.v,Ok P f as r∧(∀p∈eT dst r.v,H p.1=.absent),
    eT dst r.v++(if r.fresh then []else aP H ((args++caps).flatMap (bL H 8)))⟩
  |none=>.fail
 |some (f,caps),some (.gen g)=>match jE H g.σ g.shut 0 (args++caps)with
  |some as=>⟨ren (iV g.σ g.new) 8 g.ret,
    qR P f as (g.σ.map fun p=>(p.2,cD g.σ (H p.1))) g.fin g.ret∧(∀p∈g.σ,(H p.1).live=true)∧((iV g.σ g.new).map (·.1)).Nodup∧((iV g.σ g.new).map (·.2)).Nodup∧
     (∀p∈g.new,H p.2=.absent∧p.2%1000=dst%1000∧dst≤p.2)∧∀id∈jF H g.shut 0 (args++caps),id∉g.σ.map (·.1),
    ((iV g.σ g.new).map fun p=>(p.2,cD (iV g.σ g.new) (aK g.fin p.1)))++aP H (jF H g.shut 0 (args++caps))⟩
  |none=>.fail
 |some (f,caps),some (.rel Rel fr r)=>match bX ((args++caps).map (close H 8))with
  |some as=>⟨nK dst r.v,Qg P f as Rel∧(∀q,Rel q→q.fresh=fr)∧(∀p∈eT dst r.v,H p.1=.absent),
    eT dst r.v++(if fr then []else aP H ((args++caps).flatMap (bL H 8)))⟩
  |none=>.fail
 |some (f,caps),some (.genR g Rel)=>match jE H g.σ g.shut 0 (args++caps)with
  |some as=>⟨ren (iV g.σ g.new) 8 g.ret,
    Mo P f as (g.σ.map fun p=>(p.2,cD g.σ (H p.1))) Rel∧(∀p∈g.σ,(H p.1).live=true)∧((iV g.σ g.new).map (·.1)).Nodup∧((iV g.σ g.new).map (·.2)).Nodup∧
     (∀p∈g.new,H p.2=.absent∧p.2%1000=dst%1000∧dst≤p.2)∧∀id∈jF H g.shut 0 (args++caps),id∉g.σ.map (·.1),
    ((iV g.σ g.new).map fun p=>(p.2,cD (iV g.σ g.new) (aK g.fin p.1)))++aP H (jF H g.shut 0 (args++caps))⟩
  |none=>.fail
 |_,_=>.fail
def eF(T:TypeId→lA)(t:TypeId)(x:LV):oZ:=
 match(T t).k,x with
 | .arr n e,.d (.sl xs)=>.cond (.d (.ro (bO (xs.take n)))) (0<n∧n≤xs.length∧∀x∈xs,(aE x).length=(T e).size)
 |_,_=>.fail
def Rk(P:Program)(T:TypeId→lA)(f:FuncId):Prop:=∃fn t tr e,P.funcs[f]? =some fn∧(fn.name== "runtime.NumGoroutine")=false∧fn.body.isNone=true∧Extern.findNext fn=none∧
 Extern.find fn=some (Extern.SlicesOverlaps.overlaps #[t,t] #[tr])∧(T t).k=.slice e∧(T e).k.isNone=false
def dK(P:Program)(T:TypeId→lA)(H:Nat→aX)(f:LV)(args:List LV):oZ:=
 match f,args with
 | .d (.fn f []),[.oc i _ n _,.oc j _ m _]=>match H i,H j with
   | .row _ _ _,.row _ _ _=>.cond (.d (.bool false)) (i≠j∧0<n∧0<m∧Rk P T f)
   |_,_=>.fail
 |_,_=>.fail
def bC(P:Program)(T:TypeId→lA)(H:Nat→aX)(g:Operand→LV)(r:Option sH)(o:Oper):oZ:=
 let dst:=o.dst.getD 0
 match o.op with
 | .move x=>.plain (g x)
 | .assign x=>match g x,(T o.type).k,H dst with
   | .nl,.slice e,.absent=>⟨.ow dst 0 0,0<(T e).size,[(dst,.row false (T e).size [])]⟩
   |y,_,_=>.plain y
 | .pick c a b=>eJ (g c) (g a) (g b)
 | .alloc t=>⟨.bx dst 0,H dst=.absent∧(T t).k.isNone=false,[(dst,.box false ((T t).zero.map fY))]⟩
 | .box _ x=>⟨.bx dst 0,H dst=.absent∧iA H (g x)=true,[(dst,.box false (fN (g x)))]⟩
 | .build t ps=>eE T H t (ps.toList.map fun p=>(p.1,g p.2))
 | .buildSlice t n ps=>if nD r then bA T H dst t n (ps.toList.map fun p=>(p.1,g p.2))else bE T H dst t n (ps.toList.map fun p=>(p.1,g p.2))
 | .load t a=>if(T t).k.isNone then .fail else eK H (T t) (g a)
 | .store t a x=>if(T t).k.isNone then .fail else cW H (T t) (g a) (g x)
 | .nilCheck x=>match g x with
   | .bx id off=>.cond (.bx id off) ((H id).live=true)
   | .rp id k j=>.cond (.rp id k j) ((H id).live=true)
   | .d (.ro cs)=>.plain (.d (.ro cs))
   | .d (.fn f cs)=>.plain (.d (.fn f cs))
   | .fn f cs=>.plain (.fn f cs)
   |_=>.fail
 | .binOp op t x y _=>match r with
   |some .wrap=>fV op (g x) (g y)
   |some (.nil e b)=>if lX y then fO T H t e b op (g x)else .fail
   |_=>if(T t).k.isPtr then gZ op (g x) (g y)else dP (T t).eqk (T t).k.isBool op (g x) (g y)
 | .unOp op _ x=>lW op (g x)
 | .convert s t x=>eO T H s t (g x)
 | .makeFunc (.func f) first cs=>if first.size=0 then .plain (.fn f (cs.toList.map g))else .cond (.bm f (first.toList.map g)) (cs.size=0)
 | .sliceToArrayPointer t x=>eF T t (g x)
 | .slice t x lo hi mx=>if mx.isSome&& !hi.isSome then .fail else if nD r&&mx.isSome then hF T H t (g x) (lo.map g) (hi.map g) (mx.map g)else dH T H t (g x) (lo.map g) (hi.map g) (mx.map g)
 | .fieldAddr s x f=>dG T H s (g x) f
 | .field s x f=>Aa T s (g x) f
 | .indexAddr t x i=>bK T H t (g x) (g i)
 | .index t x i=>bJ T t (g x) (g i)
 | .extract x i=>dO (g x) i
 | .makeSlice t n c=>eM T H dst t (g n) (g c)
 | .makeMap _ none=>cL H dst
 | .lookup t x i ok=>pH T H t (g x) (g i) ok
 | .mapUpdate t m k x=>cK T H t (g m) (g k) (g x)
 | .insert t m k x=>cK T H t (g m) (g k) (g x)
 | .range t x=>match(T t).k with
   | .map _ _=>eA H dst (g x)
   |_=>.fail
 | .call {callee:=.value f,args, .. }=>if nD r then dK P T H (g f) (args.toList.map g)else bP P H r dst (g f) (bZ (g f)++args.toList.map g)
 | .call {callee:=.builtin b,args,argTypes}=>match b,args.toList.map g,argTypes.toList with
   | .len,[x],[t]=>hO T H t x
   | .append,[s,x],[t,u]=>if t=u∨(T u).k.isStr=true then(match r with
     |some .inp=>bT T H t s x
     |some (.app lo c)=>bM T H dst t lo c s x
     |some (.appv lo c v)=>mJ T H dst t lo c v s x
     |some (.tie kid)=>nJ T H dst t kid s x
     |_=>if uF s then bR T H dst t s x else cO T H dst t s x)else if(T u).k.isInt then cB T H dst t s x else .fail
   | .cap,[x],[t]=>match r with
     |some (.cap lo c)=>eS T H t lo c x
     |_=>eN T H t x
   | .clear,[x],[t]=>dI T H t x
   | .copy,[d,s],[t,_]=>if uF d then dJ T H t d s else eL T H t d s
   | .min,l,_=>iW false l
   | .max,l,_=>iW true l
   | .delete,[m,k],[t,_]=>pI T H t m k
   |_,_,_=>.fail
 |_=>.fail
end Go.Eng
namespace Go.Eng
open Go.RowKit
theorem aJ{α:Type}(f:Nat→α)(i:Nat)(x:α):cN f i x i=x:=by simp[cN]
theorem cP{α:Type}(f:Nat→α){i j:Nat}(x:α)(h:j≠i):cN f i x j=f j:=by simp[cN,h]
section
variable{w:World} {E:Nat→Prop} {β:Nat→Option Nat} {H:Nat→aX}
theorem RD.one{x:DV}{v:Value}(h:RD w E x v)(hx:∀cs,x≠ .agg cs):v.oneCell'=true:=by
 cases h<;>first|rfl|(exact absurd rfl (hx _))|assumption
theorem yH{v:Value}(h:v.oneCell'=true):v.cells= #[v]:=by cases v<;>simp_all[Value.oneCell',Value.cells]
theorem Id{x:DV}(hx:∀cs,x≠ .agg cs):aE x=[x]:=by cases x<;>first|rfl|exact absurd rfl (hx _)
theorem RD.cells{x:DV}{v:Value}(h:RD w E x v):v.cells.toList.length=(aE x).length∧∀(i:Nat) (c:DV) (u:Value),(aE x)[i]? =some c→v.cells.toList[i]? =some u→RD w E c u:=by
 by_cases hx:∃cs,x=.agg cs
 ·obtain⟨cs,rfl⟩:=hx
  cases h with
  |agg cs vs hl _ h=>exact⟨by simpa [Value.cells,aE]using hl,fun i c u hc hu=>h i c u hc (by simpa [Value.cells]using hu)⟩
 ·have hx':∀cs,x≠ .agg cs:=fun cs e=>hx ⟨cs,e⟩
  have ho:=h.one hx'
  rw[yH ho,Id hx']
  refine⟨rfl,fun i c u hc hu=>?_⟩
  cases i with
  |zero=>simp at hc hu;subst hc;subst hu;exact h
  |succ i=>simp at hc
theorem RD.cells1{x:DV}{v:Value}(h:RD w E x v):∀u∈v.cells.toList,u.oneCell'=true:=by
 by_cases hx:∃cs,x=.agg cs
 ·obtain⟨cs,rfl⟩:=hx
  cases h with
  |agg cs vs hl h1 h=>intro u hu;exact h1 u (by simpa [Value.cells]using hu)
 ·have ho:=h.one fun cs e=>hx ⟨cs,e⟩
  rw[yH ho]
  intro u hu
  simp at hu;subst hu;exact ho
theorem R.cells{x:LV}{v:Value}(hs:iA H x=true)(h:R w E β H x v):v.cells.toList.length=(fN x).length∧∀(i:Nat) (c:LV) (u:Value),(fN x)[i]? =some c→v.cells.toList[i]? =some u→R w E β H c u:=by
 have one:∀(x:LV) (v:Value),R w E β H x v→fN x=[x]→v.oneCell'=true→v.cells.toList.length=(fN x).length∧∀(i:Nat) (c:LV) (u:Value),(fN x)[i]? =some c→v.cells.toList[i]? =some u→R w E β H c u:=by
  intro x v h hx ho
  rw[yH ho,hx]
  refine⟨rfl,fun i c u hc hu=>?_⟩
  cases i with
  |zero=>simp at hc hu;subst hc;subst hu;exact h
  |succ i=>simp at hc
 have h0:=h
 cases h with
 |d x v h=>
  obtain⟨h1,h2⟩:=h.cells
  have e:fN (.d x)=(aE x).map .d:=by cases x<;>rfl
  rw[e]
  refine⟨by simpa using h1,fun i c u hc hu=>?_⟩
  rw[List.getElem?_map]at hc
  cases hd:(aE x)[i]? with
  |none=>simp[hd]at hc
  |some d=>simp[hd]at hc;subst hc;exact .d _ _ (h2 i d u hd hu)
 |agg cs vs hl _ h=>exact⟨by simpa [Value.cells,fN]using hl,fun i c u hc hu=>h i c u hc (by simpa [Value.cells]using hu)⟩
 |bx id off b fz cs hH hb=>exact one _ _ h0 rfl rfl
 |bxdead id off v hH h1=>exact one _ _ h0 rfl h1
 |rp id k j b fz size xs hH hb=>exact one _ _ h0 rfl rfl
 |rpdead id k j v hH h1=>exact one _ _ h0 rfl h1
 |ow=>exact one _ _ h0 rfl rfl
 |ow0=>exact one _ _ h0 rfl rfl
 |owdead id k n v hH h1=>exact one _ _ h0 rfl h1
 |oc=>exact one _ _ h0 rfl rfl
 |ocdead id k n c v hH h1=>exact one _ _ h0 rfl h1
 |fn=>exact one _ _ h0 rfl rfl
 |bm=>exact one _ _ h0 rfl rfl
 |tup=>simp[iA]at hs
 |when=>simp[iA]at hs
 |nl=>exact one _ _ h0 rfl rfl
 |mp=>exact one _ _ h0 rfl rfl
 |mpdead id v hH h1=>exact one _ _ h0 rfl h1
 |it=>simp[iA]at hs
 |itdead=>simp[iA]at hs
 |junk=>simp[iA]at hs
theorem R.cells1{x:LV}{v:Value}(hs:iA H x=true)(h:R w E β H x v):∀u∈v.cells.toList,u.oneCell'=true:=by
 have one:∀v:Value,v.oneCell'=true→∀u∈v.cells.toList,u.oneCell'=true:=by
  intro v ho u hu
  rw[yH ho]at hu
  simp at hu;subst hu;exact ho
 cases h with
 |d x v h=>exact h.cells1
 |agg cs vs hl h1 h=>intro u hu;exact h1 u (by simpa [Value.cells]using hu)
 |bx id off b fz cs hH hb=>exact one _ rfl
 |bxdead id off v hH h1=>exact one _ h1
 |rp id k j b fz size xs hH hb=>exact one _ rfl
 |rpdead id k j v hH h1=>exact one _ h1
 |ow=>exact one _ rfl
 |ow0=>exact one _ rfl
 |owdead id k n v hH h1=>exact one _ h1
 |oc=>exact one _ rfl
 |ocdead id k n c v hH h1=>exact one _ h1
 |fn=>exact one _ rfl
 |bm=>exact one _ rfl
 |tup=>simp[iA]at hs
 |when=>simp[iA]at hs
 |nl=>exact one _ rfl
 |mp=>exact one _ rfl
 |mpdead id v hH h1=>exact one _ h1
 |it=>simp[iA]at hs
 |itdead=>simp[iA]at hs
 |junk=>simp[iA]at hs
theorem uK(s:ByteArray):(⟨s.data.toList.toArray⟩:ByteArray)=s:=by cases s;simp
theorem Mp(v:Value):R w E β H (pY v) v:=by
 unfold pY
 split
 ·exact .d _ _ (.bool _)
 ·exact .d _ _ (.int _ _)
 ·rename_i s
  have:=RD.str (w:=w) (E:=E) s.data.toList
  rw[uK]at this
  exact .d _ _ this
 ·exact .nl _
 ·exact .junk _
 ·exact .junk _
 ·rename_i h1 h2 h3 h4 h5 h6
  refine .d _ _ (.val _ ?_)
  cases v<;>first|rfl|exact absurd rfl (h5 _)|exact absurd rfl (h6 _)
theorem R.const(v:Value):R w E β H (fY v) v:=by
 unfold fY
 split
 ·exact .d _ _ (.bool _)
 ·exact .d _ _ (.int _ _)
 ·rename_i s
  have:=RD.str (w:=w) (E:=E) s.data.toList
  rw[uK]at this
  exact .d _ _ this
 ·exact .nl _
 ·rename_i vs
  split
  ·rename_i h
   have e:vs=vs.toList.toArray:=by simp
   rw[e]
   refine .agg _ _ (by simp) (fun u hu=>List.all_eq_true.1 h u (by simpa using hu)) fun i c u hc hu=>?_
   rw[List.getElem?_map]at hc
   have hu':vs.toList[i]? =some u:=by simpa using hu
   cases q:vs.toList[i]? with
   |none=>rw[q]at hu';cases hu'
   |some u'=>
    rw[q]at hu'
    cases hu'
    simp only[List.toList_toArray]at hc
    rw[q]at hc
    cases hc
    exact Mp _
  ·exact .junk _
 ·exact .junk _
 ·rename_i h1 h2 h3 h4 h5 h6
  refine .d _ _ (.val _ ?_)
  cases v<;>first|rfl|exact absurd rfl (h5 _)|exact absurd rfl (h6 _)
theorem R.fn0(f:FuncId):R w E β H (.d (.fn f [])) (.func (.func f) #[] #[]):=.d _ _ (.fn f [] [] rfl (by simp))
theorem BB{α:Type}:∀(l:List (Option α)) (xs:List α),bX l=some xs→l=xs.map some
 |[],xs,h=>by simp[bX]at h;subst h;rfl
 |none::_,_,h=>by simp[bX]at h
 |some x::r,xs,h=>by
  simp only[bX,Option.map_eq_some_iff]at h
  obtain⟨ys,h1,rfl⟩:=h
  rw[BB r ys h1];rfl
theorem pJ{α γ:Type}{f:α→Option γ}{l:List α}{xs:List γ}(h:bX (l.map f)=some xs):xs.length=l.length∧∀(i:Nat) (a:α) (x:γ),l[i]? =some a→xs[i]? =some x→f a=some x:=by
 have h1:=BB _ _ h
 refine⟨by have:=congrArg List.length h1;simpa using this.symm,fun i a x ha hx=>?_⟩
 have:=congrArg (fun l=>l[i]?) h1
 simpa [ha,hx]using this
theorem Gp{size:Nat}{xs:List DV}(hs:∀x∈xs,(aE x).length=size)(k:Nat)(j:Nat)(hj:j<size):
 (bO xs)[k*size+j]? =(xs[k]?).bind fun x=>(aE x)[j]? :=by
 induction xs generalizing k with
 |nil=>simp[bO]
 |cons x t ih=>
  have hx:=hs x (by simp)
  have ht:∀y∈t,(aE y).length=size:=fun y hy=>hs y (by simp[hy])
  simp only[bO,List.flatMap_cons]
  cases k with
  |zero=>
   rw[List.getElem?_append_left (by omega)]
   simp
  |succ k=>
   rw[List.getElem?_append_right (by rw[hx];have:size≤(k+1)*size:=Nat.le_mul_of_pos_left _ (by omega);omega)]
   have e:(k+1)*size+j-(aE x).length=k*size+j:=by rw[hx,Nat.add_mul];omega
   rw[e]
   simpa [bO]using ih ht k
theorem gA{size:Nat}{xs:List DV}(hs:∀x∈xs,(aE x).length=size):(bO xs).length=xs.length*size:=by
 induction xs with
 |nil=>simp[bO]
 |cons x t ih=>
  have:=ih fun y hy=>hs y (by simp[hy])
  simp only[bO,List.flatMap_cons,List.length_append,List.length_cons]at*
  rw[this,hs x (by simp),Nat.add_mul];omega
theorem yI{size:Nat}{xs:List DV}(hs:∀x∈xs,(aE x).length=size)(k:Nat):bO (xs.drop k)=(bO xs).drop (k*size):=by
 induction xs generalizing k with
 |nil=>simp[bO]
 |cons x t ih=>
  have hx:=hs x (by simp)
  cases k with
  |zero=>simp
  |succ k=>
   simp only[List.drop_succ_cons]
   rw[ih (fun y hy=>hs y (by simp[hy]))]
   simp only[bO,List.flatMap_cons]
   rw[Nat.add_mul,Nat.one_mul,Nat.add_comm,←List.drop_drop,←hx,List.drop_left']
   rfl
theorem oD{size:Nat}{xs:List DV}(hs:∀x∈xs,(aE x).length=size)(k:Nat):bO (xs.take k)=(bO xs).take (k*size):=by
 induction xs generalizing k with
 |nil=>simp[bO]
 |cons x t ih=>
  have hx:=hs x (by simp)
  cases k with
  |zero=>simp[bO]
  |succ k=>
   simp only[List.take_succ_cons,bO,List.flatMap_cons]
   have:=ih (fun y hy=>hs y (by simp[hy])) k
   simp only[bO]at this
   rw[this,List.take_append,hx,Nat.add_mul,Nat.one_mul,Nat.add_sub_cancel,List.take_of_length_le (l:=aE x) (by rw[hx];exact Nat.le_add_left _ _)]
theorem nL(xs ys:List DV):bO (xs++ys)=bO xs++bO ys:=by simp[bO]
theorem CF{size:Nat}{xs:List DV}(hs:∀x∈xs,(aE x).length=size)(k m:Nat):∀x∈(xs.drop k).take m,(aE x).length=size:=
 fun x hx=>hs x (List.mem_of_mem_drop (List.mem_of_mem_take hx))
theorem Gq{E':Nat→Prop}(hobj:∀id,fU w E β H id)(hD:∀x v,RD w E x v→RD w E' x v){id k m c b size:Nat}{fz:Bool}{xs:List DV}(hH:H id=.row fz size xs)(hb:β id=some b)(hkn:k+m≤xs.length)(hn:m≤c)(hc:c≤maxLen)
 (ht:∀b,β id=some b→¬E' b)(hm:0<m):RD w E' (.sl ((xs.drop k).take m)) (.slice (some ⟨b,k*size,none⟩) m c):=by
 have ho:=hobj id
 simp only[fU,hH]at ho
 obtain⟨hsz,hall,ho⟩:=ho
 rcases ho with⟨hn',_⟩|⟨b',e',cur',hb',hblk',hlen',hcs⟩
 ·rw[hn']at hb;cases hb
 ·rw[hb']at hb;injection hb with hb;subst hb
  have hin:((xs.drop k).take m).length=m:=by simp;omega
  have hne:(xs.drop k).take m≠[]:=by intro hh;rw[hh]at hin;simp at hin;omega
  have hall':=CF hall k m
  have hkm:k*size+m*size≤xs.length*size:=by rw[←Nat.add_mul];exact Nat.mul_le_mul_right _ hkn
  have hcell:∀(j:Nat) (u:Value),((cur'.toList.drop (k*size)).take (m*size))[j]? =some u→w.cell? ⟨b',k*size+j,none⟩=some u:=by
   intro j u hu
   rw[cell_of_row w b' _ cur' e' (0,0) hblk']
   rw[List.getElem?_take]at hu
   split at hu
   ·simpa using hu
   ·cases hu
  have hone:∀u∈(cur'.toList.drop (k*size)).take (m*size),u.oneCell'=true:=by
   intro u hu
   obtain⟨i,hi,rfl⟩:=List.getElem_of_mem hu
   simp only[List.getElem_take,List.getElem_drop]
   simp at hi
   have hfl:=gA hall
   exact(hcs (k*size+i) ((bO xs)[k*size+i]'(by omega)) _ (List.getElem?_eq_getElem _) (by simp)).1
  have hfin:=RD.sl (w:=w) (E:=E') ((xs.drop k).take m) b' (k*size) c size ((cur'.toList.drop (k*size)).take (m*size)) hne (ht b' hb') hall' (by omega) hc
   (by rw[hin];simp;omega) hone (Array.getElem?_eq_some_iff.1 hblk').1 hcell ?_
  ·rw[hin]at hfin;exact hfin
  ·intro i d v hd hv
   rw[oD (fun x hx=>hall x (List.mem_of_mem_drop hx)),yI hall,List.getElem?_take]at hd
   rw[List.getElem?_take]at hv
   split at hd
   ·rename_i hi
    rw[if_pos hi]at hv
    simp only[List.getElem?_drop]at hd hv
    exact hD _ _ (hcs _ d v hd (by simpa using hv)).2
   ·cases hd
theorem tS{E':Nat→Prop}(hobj:∀id,fU w E β H id)(hD:∀x v,RD w E x v→RD w E' x v):
 ∀(n:Nat) (l:LV) (x:DV) (v:Value),close H n l=some x→(∀id∈bL H n l,∀b,β id=some b→¬E' b)→R w E β H l v→RD w E' x v:=by
 intro n
 induction n with
 |zero=>intro l x v h;simp[close]at h
 |succ n ih=>
  intro l x v h ht hr
  have list:∀(cs:List LV) (xs:List DV) (vs:List Value),bX (cs.map (close H n))=some xs→(∀id∈cs.flatMap (bL H n),∀b,β id=some b→¬E' b)→vs.length=cs.length→
   (∀(i:Nat) (c:LV) (v:Value),cs[i]? =some c→vs[i]? =some v→R w E β H c v)→vs.length=xs.length∧∀(i:Nat) (c:DV) (v:Value),xs[i]? =some c→vs[i]? =some v→RD w E' c v:=by
   intro cs xs vs h ht hl hp
   obtain⟨h1,h2⟩:=pJ h
   refine⟨by omega,fun i c v hc hv=>?_⟩
   have hi:i<cs.length:=by have:=(List.getElem?_eq_some_iff.1 hc).1;omega
   have hci:=List.getElem?_eq_getElem hi
   exact ih _ _ _ (h2 i _ c hci hc) (fun id hid b hb=>ht id (List.mem_flatMap.2 ⟨_,List.getElem_mem hi,hid⟩) b hb) (hp i _ v hci hv)
  cases l with
  |d y=>simp only[close,Option.some.injEq]at h;subst h;cases hr with|d _ _ h=>exact hD _ _ h
  |agg cs=>
   simp only[close,Option.map_eq_some_iff]at h
   obtain⟨xs,h,rfl⟩:=h
   cases hr with
   |agg _ vs hl ho hp=>
    obtain⟨h1,h2⟩:=list cs xs vs h (by simpa [bL]using ht) hl hp
    exact .agg xs vs h1 ho h2
  |ow id k m=>
   simp only[close]at h
   cases hH:H id with
   |row fz size xs=>
    simp only[hH,Option.some.injEq]at h
    subst h
    cases hr with
    |ow _ _ _ b c fz' size' xs' cur e hH' hb hkn hn hc hblk hroom=>
     rw[hH]at hH'
     injection hH' with _ e1 e2
     subst e1;subst e2
     rcases Nat.eq_zero_or_pos m with hm|hm
     ·subst hm;simpa using RD.sl0 (w:=w) (E:=E') _ c hc
     ·exact Gq hobj hD hH hb hkn hn hc (fun b hb=>ht id (by simp[bL]) b hb) hm
    |ow0 _ _ a fz' size' xs' hH'=>simpa using RD.sl0 (w:=w) (E:=E') a 0 (by unfold maxLen;omega)
    |owdead _ _ _ _ hH'=>rw[hH]at hH';cases hH'
   |_=>simp[hH]at h
  |oc id k m c=>
   simp only[close]at h
   cases hH:H id with
   |row fz size xs=>
    simp only[hH,Option.some.injEq]at h
    subst h
    cases hr with
    |oc _ _ _ _ a fz' size' xs' hH' hn hkc hc ha=>
     rw[hH]at hH'
     injection hH' with _ e1 e2
     subst e1;subst e2
     rcases Nat.eq_zero_or_pos m with hm|hm
     ·subst hm;simpa using RD.sl0 (w:=w) (E:=E') a c hc
     ·rcases ha with ha|⟨b,hb,rfl⟩
      ·omega
      ·exact Gq hobj hD hH hb (by omega) hn hc (fun b hb=>ht id (by simp[bL]) b hb) hm
    |ocdead _ _ _ _ _ hH'=>rw[hH]at hH';cases hH'
   |_=>simp[hH]at h
  |bx id off=>
   simp only[close]at h
   cases hH:H id with
   |box fz cs=>
    simp only[hH,Option.map_eq_some_iff]at h
    obtain⟨xs,h,rfl⟩:=h
    have ho:=hobj id
    simp only[fU,hH]at ho
    obtain⟨b,e,us,hb,hblk,hlen,ho1,hp⟩:=ho
    simp only[bL,hH,List.mem_cons]at ht
    cases hr with
    |bx _ _ b' _ _ _ hb'=>
     rw[hb]at hb';injection hb' with hb';subst hb'
     obtain⟨h1,h2⟩:=list (cs.drop off) xs (us.drop off) h (fun id' hid b hb=>ht id' (.inr hid) b hb) (by simp;omega) (fun i c v hc hv=>by
      simp only[List.getElem?_drop]at hc hv;exact hp _ c v hc hv)
     refine .ro xs b off (us.drop off) (ht id (.inl rfl) b hb) h1 (fun u hu=>ho1 u (List.mem_of_mem_drop hu)) (Array.getElem?_eq_some_iff.1 hblk).1 (fun j u hu=>?_) h2
     rw[cell_of_row w b _ us.toArray e (0,0) hblk]
     simpa using hu
    |bxdead _ _ _ hH'=>rw[hH]at hH';cases hH'
   |_=>simp[hH]at h
  |fn f cs=>
   simp only[close,Option.map_eq_some_iff]at h
   obtain⟨xs,h,rfl⟩:=h
   cases hr with
   |fn _ _ vs hl hp=>
    obtain⟨h1,h2⟩:=list cs xs vs h (by simpa [bL]using ht) hl hp
    exact .fn f xs vs h1 h2
  |bm f cs=>
   simp only[close,Option.map_eq_some_iff]at h
   obtain⟨xs,h,rfl⟩:=h
   cases hr with
   |bm _ _ vs hl hp=>
    obtain⟨h1,h2⟩:=list cs xs vs h (by simpa [bL]using ht) hl hp
    exact .bm f xs vs h1 h2
  |nl=>simp only[close,Option.some.injEq]at h;subst h;cases hr with|nl a=>exact .sl0 a 0 (by unfold maxLen;omega)
  |mp id=>
   simp only[close]at h
   cases hH:H id with
   |map fz ks vs=>
    simp only[hH,Option.some.injEq]at h
    subst h
    have ho:=hobj id
    simp only[fU,hH]at ho
    obtain⟨b,arr,clock,hb,hblk,hk,hl,hborn,h1,h2⟩:=ho
    cases hr with
    |mp _ b' _ _ _ _ hb'=>
     rw[hb]at hb';injection hb' with hb';subst hb'
     exact .mp ks vs b clock arr (ht id (by simp[bL]) b hb) (Array.getElem?_eq_some_iff.1 hblk).1 hblk hk hl hborn (fun i d e hd he=>hD _ _ (h1 i d e hd he)) (fun i d e hd he=>hD _ _ (h2 i d e hd he))
    |mpdead _ _ hH'=>rw[hH]at hH';cases hH'
   |_=>simp[hH]at h
  |rp|it|tup|when|junk=>simp[close]at h
end
end Go.Eng
namespace Go.Eng
open Go.RowKit
structure lF(X:Nat→Prop)(H:Nat→aX)(β:Nat→Option Nat)(w:World)(H':Nat→aX)(β':Nat→Option Nat)(w':World):Prop where
 size:w.heap.size≤w'.heap.size
 blk:∀k,k<w.heap.size→¬Ex X β H k→w'.heap[k]? =w.heap[k]?
 sub:∀k,k<w.heap.size→Ex X β' H' k→Ex X β H k
 pass:∀id,cC w β H w' β' H' id
section
variable{w0:iU} {X:Nat→Prop} {H H' H'':Nat→aX} {β β' β'':Nat→Option Nat} {w w' w'':World}
theorem tR.mem{N:Nat}{env:Nat→LV}{a:Act}(h:tR N w0 X env H β a w):fX w0 X H β w:=⟨h.ext,h.xold,h.fresh,h.inj,h.obj,h.pin⟩
theorem lF.D(g:lF X H β w H' β' w'){x:DV}{v:Value}(h:RD w (Ex X β H) x v):RD w' (Ex X β' H') x v:=h.step g.blk g.size g.sub
theorem lF.R(g:lF X H β w H' β' w'){x:LV}{v:Value}(h:R w (Ex X β H) β H x v):R w' (Ex X β' H') β' H' x v:=h.step (fun _ _=>g.D) g.pass
theorem cC.refl(id:Nat):cC w β H w β H id:=by
 unfold cC
 cases h:H id with
 |absent=>trivial
 |dead=>rfl
 |box fz cs=>exact .inr ⟨⟨fz,cs,rfl⟩,rfl⟩
 |row fz s xs=>exact .inr ⟨⟨fz,xs,rfl,Nat.le_refl _⟩,rfl,fun b cur e _ hb=>⟨cur,e,hb,rfl⟩⟩
 |map fz ks vs=>exact .inr ⟨⟨fz,ks,vs,rfl⟩,rfl⟩
 |iter fz ks vs=>exact .inr ⟨⟨fz,ks,vs,rfl⟩,rfl⟩
 |know x v=>trivial
theorem cC.trans{id:Nat}(h:cC w β H w' β' H' id)(k:cC w' β' H' w'' β'' H'' id):cC w β H w'' β'' H'' id:=by
 unfold cC at*
 cases e:H id with
 |absent=>trivial
 |dead=>simp only[e]at h;simpa only[h]using k
 |box fz cs=>
  simp only[e]at h
  rcases h with h|⟨⟨fz',cs',h⟩,hb⟩
  ·simp only[h]at k;exact .inl k
  ·simp only[h]at k
   rcases k with k|⟨k,kb⟩
   ·exact .inl k
   ·exact .inr ⟨k,kb.trans hb⟩
 |row fz s xs=>
  simp only[e]at h
  rcases h with h|⟨⟨fz',xs',h,hl⟩,hb,hh⟩
  ·simp only[h]at k;exact .inl k
  ·simp only[h]at k
   rcases k with k|⟨⟨fz2,xs2,k,kl⟩,kb,kh⟩
   ·exact .inl k
   ·refine .inr ⟨⟨fz2,xs2,k,Nat.le_trans hl kl⟩,kb.trans hb,fun b cur t hbb hblk=>?_⟩
    obtain⟨cur',t',h1,h2⟩:=hh b cur t hbb hblk
    obtain⟨cur2,t2,h3,h4⟩:=kh b cur' t' (hb.trans hbb) h1
    exact⟨cur2,t2,h3,h4.trans h2⟩
 |map fz ks vs=>
  simp only[e]at h
  rcases h with h|⟨⟨fz',ks',vs',h⟩,hb⟩
  ·simp only[h]at k;exact .inl k
  ·simp only[h]at k
   rcases k with k|⟨k,kb⟩
   ·exact .inl k
   ·exact .inr ⟨k,kb.trans hb⟩
 |iter fz ks vs=>
  simp only[e]at h
  rcases h with h|⟨⟨fz',ks',vs',h⟩,hb⟩
  ·simp only[h]at k;exact .inl k
  ·simp only[h]at k
   rcases k with k|⟨k,kb⟩
   ·exact .inl k
   ·exact .inr ⟨k,kb.trans hb⟩
 |know x v=>trivial
theorem lF.refl:lF X H β w H β w:=⟨Nat.le_refl _,fun _ _ _=>rfl,fun _ _ h=>h,fun id=>cC.refl id⟩
theorem lF.trans(g:lF X H β w H' β' w')(k:lF X H' β' w' H'' β'' w''):lF X H β w H'' β'' w'':=
 ⟨Nat.le_trans g.size k.size,fun b hb he=>(k.blk b (Nat.lt_of_lt_of_le hb g.size) (fun h=>he (g.sub b hb h))).trans (g.blk b hb he),
   fun b hb he=>g.sub b hb (k.sub b (Nat.lt_of_lt_of_le hb g.size) he),fun id=>(g.pass id).trans (k.pass id)⟩
theorem fU.step{E E':Nat→Prop}{id:Nat}(hsz:w.heap.size≤w'.heap.size)(hEb:∀k,k<w.heap.size→¬E k→w'.heap[k]? =w.heap[k]?∧¬E' k)(hD:∀x v,RD w E x v→RD w' E' x v)(hR:∀l v,R w E β H l v→R w' E' β' H' l v)(hH:H' id=H id)
 (hb:(H id).live=true→β' id=β id)(hblk:∀b,(H id).live=true→β id=some b→w'.heap[b]? =w.heap[b]?)(h:fU w E β H id):fU w' E' β' H' id:=by
 unfold fU at*
 rw[hH]
 cases e:H id with
 |absent=>trivial
 |dead=>trivial
 |box fz cs=>
  simp only[e,aX.live,forall_const]at h hb hblk⊢
  obtain⟨b,t,us,h1,h2,h3,ho,h4⟩:=h
  exact⟨b,t,us,(hb).trans h1,(hblk b h1).trans h2,h3,ho,fun i c v hc hv=>hR _ _ (h4 i c v hc hv)⟩
 |row fz s xs=>
  simp only[e,aX.live,forall_const]at h hb hblk⊢
  obtain⟨h0,h1,h2⟩:=h
  refine⟨h0,h1,?_⟩
  rcases h2 with⟨h2,h3⟩|⟨b,t,cur,h2,h3,h4,h5⟩
  ·exact .inl ⟨hb.trans h2,h3⟩
  ·exact .inr ⟨b,t,cur,hb.trans h2,(hblk b h2).trans h3,h4,fun i d v hd hv=>⟨(h5 i d v hd hv).1,hD _ _ (h5 i d v hd hv).2⟩⟩
 |map fz ks vs=>
  simp only[e,aX.live,forall_const]at h hb hblk⊢
  obtain⟨b,arr,clock,h1,h2,h3,h4,h5,h6,h7⟩:=h
  exact⟨b,arr,clock,hb.trans h1,(hblk b h1).trans h2,h3,h4,h5,fun i d e hd he=>hD _ _ (h6 i d e hd he),fun i d e hd he=>hD _ _ (h7 i d e hd he)⟩
 |iter fz ks vs=>
  simp only[e,aX.live,forall_const]at h hb hblk⊢
  obtain⟨b,bm,arr,clock,seen,last,h1,h2,h3,h4,h5,h6,h7,h8,h9,h10,h11⟩:=h
  exact⟨b,bm,arr,clock,seen,last,hb.trans h1,(hblk b h1).trans h2,(hEb bm h4 h3).2,Nat.lt_of_lt_of_le h4 hsz,(hEb bm h4 h3).1.trans h5,h6,h7,h8,h9,fun i d e hd he=>hD _ _ (h10 i d e hd he),fun i d e hd he=>hD _ _ (h11 i d e hd he)⟩
 |know x v=>
  simp only[e]at h⊢
  exact hR _ _ h
theorem lF.out(g:lF X H β w H' β' w'):∀k,k<w.heap.size→¬Ex X β H k→w'.heap[k]? =w.heap[k]?∧¬Ex X β' H' k:=fun k hk he=>⟨g.blk k hk he,fun h=>he (g.sub k hk h)⟩
theorem lF.marks(g:lF X H β w H' β' w'){B:iU}{l:List Deferred}(h:Eo B w (Ex X β H) l):Eo B w' (Ex X β' H') l:=
 let⟨Ds,h0,h1,h2,h3⟩:=h
 ⟨Ds,h0,h1,h2,fun D hD=>let⟨q0,q1,q2⟩:=h3 D hD;let r:=g.out D (Array.getElem?_eq_some_iff.1 q2).1 q1;⟨q0,r.2,r.1.trans q2⟩⟩
theorem BD(o:aX):(frozen o).live=o.live:=by cases o<;>rfl
theorem CG(o:aX):(frozen o).mut=false:=by cases o<;>rfl
theorem jG(H:Nat→aX)(ids:List Nat)(id:Nat):bG H (aP H ids) id=if id∈ids then frozen (H id)else H id:=by
 induction ids with
 |nil=>simp[aP,bG]
 |cons i t ih=>
  simp only[aP,List.map_cons,bG]at*
  by_cases h:id=i
  ·simp[h]
  ·simp only[h,if_false,List.mem_cons,false_or];exact ih
theorem fX.freeze(m:fX w0 X H β w)(ids:List Nat):fX w0 X (bG H (aP H ids)) β w∧lF X H β w (bG H (aP H ids)) β w:=by
 have hid:=jG H ids
 have hlive:∀id,(bG H (aP H ids) id).live=(H id).live:=fun id=>by rw[hid];split<;>simp[BD]
 have hmut:∀id,(bG H (aP H ids) id).mut=true→(H id).mut=true:=fun id h=>by
  rw[hid]at h;split at h
  ·rw[CG]at h;cases h
  ·exact h
 have g:lF X H β w (bG H (aP H ids)) β w:=by
  refine⟨Nat.le_refl _,fun _ _ _=>rfl,fun k _ hk=>?_,fun id=>?_⟩
  ·rcases hk with hk|⟨id,h1,h2⟩
   ·exact .inl hk
   ·exact .inr ⟨id,hmut id h1,h2⟩
  ·have hp:=cC.refl (w:=w) (β:=β) (H:=H) id
   by_cases hin:id∈ids
   ·unfold cC at*
    rw[hid,if_pos hin]
    cases e:H id with
    |absent=>trivial
    |dead=>rfl
    |box fz cs=>exact .inr ⟨⟨true,cs,rfl⟩,rfl⟩
    |row fz s xs=>exact .inr ⟨⟨true,xs,rfl,Nat.le_refl _⟩,rfl,fun b cur e _ hb=>⟨cur,e,hb,rfl⟩⟩
    |map fz ks vs=>exact .inr ⟨⟨true,ks,vs,rfl⟩,rfl⟩
    |iter fz ks vs=>exact .inr ⟨⟨true,ks,vs,rfl⟩,rfl⟩
    |know x v=>trivial
   ·unfold cC at*
    rw[hid,if_neg hin]
    exact hp
 refine⟨⟨m.ext,m.xold,fun id b hl hb=>(m.fresh id b (by rw[←hlive];exact hl) hb).imp (Or.imp (fun h=>h) fun h=>⟨h.1,fun hm=>h.2 (hmut _ hm)⟩) (fun h=>h),fun i j b hi hj=>m.inj i j b (by rw[←hlive];exact hi) (by rw[←hlive];exact hj),fun id=>?_,fun id hid=>(m.pin id hid).trans (g.pass id)⟩,g⟩
 by_cases hin:id∈ids
 ·have ho:=m.obj id
  unfold fU at*
  rw[hid,if_pos hin]
  cases e:H id with
  |absent=>trivial
  |dead=>trivial
  |box fz cs=>
   simp only[e,frozen]at ho⊢
   obtain⟨b,t,us,h1,h2,h3,h0,h4⟩:=ho
   exact⟨b,t,us,h1,h2,h3,h0,fun i c v hc hv=>g.R (h4 i c v hc hv)⟩
  |row fz s xs=>
   simp only[e,frozen]at ho⊢
   obtain⟨h0,h1,h2⟩:=ho
   refine⟨h0,h1,?_⟩
   rcases h2 with h2|⟨b,t,cur,h2,h3,h4,h5⟩
   ·exact .inl h2
   ·exact .inr ⟨b,t,cur,h2,h3,h4,fun i d v hd hv=>⟨(h5 i d v hd hv).1,g.D (h5 i d v hd hv).2⟩⟩
  |map fz ks vs=>
   simp only[e,frozen]at ho⊢
   obtain⟨b,arr,clock,h1,h2,h3,h4,h5,h6,h7⟩:=ho
   exact⟨b,arr,clock,h1,h2,h3,h4,h5,fun i d e hd he=>g.D (h6 i d e hd he),fun i d e hd he=>g.D (h7 i d e hd he)⟩
  |iter fz ks vs=>
   simp only[e,frozen]at ho⊢
   obtain⟨b,bm,arr,clock,seen,last,h1,h2,h3,h4,h5,h6,h7,h8,h9,h10,h11⟩:=ho
   exact⟨b,bm,arr,clock,seen,last,h1,h2,(g.out bm h4 h3).2,h4,h5,h6,h7,h8,h9,fun i d e hd he=>g.D (h10 i d e hd he),fun i d e hd he=>g.D (h11 i d e hd he)⟩
  |know x v=>
   simp only[e,frozen]at ho⊢
   exact g.R ho
 ·exact(m.obj id).step g.size g.out (fun _ _=>g.D) (fun _ _=>g.R) (by rw[hid,if_neg hin]) (fun _=>rfl) (fun _ _ _=>rfl)
theorem Ex.lt(m:fX w0 X H β w){k:Nat}(h:Ex X β H k):k<w.heap.size:=by
 rcases h with h|⟨id,h1,h2⟩
 ·exact Nat.lt_of_lt_of_le (m.xold.1 k h).1 m.ext.size
 ·exact(m.fresh id k (cY h1) h2).2
theorem fX.globL(m:fX w0 X H β w):Cr w fun k=>X k∨∃id,(H id).live=true∧β id=some k:=
 m.xold.2.step (fun k hk hn=>m.ext.block k hk fun⟨id,h1,h2,h3⟩=>hn (.inr ⟨id,h1,cY h2,h3⟩)) m.ext.size fun k hk he=>by
  rcases he with h|⟨id,h1,h2⟩
  ·exact .inl h
  ·rcases(m.fresh id k h1 h2).1 with h|h
   ·omega
   ·exact .inr h.1
theorem fX.glob(m:fX w0 X H β w):Cr w (Ex X β H):=m.globL.anti fun k h=>by
 rcases h with h|⟨id,h1,h2⟩
 ·exact .inl h
 ·exact .inr ⟨id,cY h1,h2⟩
theorem fX.grow(m:fX w0 X H β w)(hb:En w.heap.size w w'):fX w0 X H β w'∧lF X H β w H β w':=by
 have hg:lF X H β w H β w':=by
  refine⟨hb.size,fun k hk _=>hb.block k hk,fun _ _ h=>h,fun id=>?_⟩
  have hp:=cC.refl (w:=w) (β:=β) (H:=H) id
  have ho:=m.obj id
  unfold cC at*
  cases e:H id with
  |absent=>trivial
  |dead=>rfl
  |box fz cs=>simpa only[e]using hp
  |row fz s xs=>
   refine .inr ⟨⟨fz,xs,rfl,Nat.le_refl _⟩,rfl,fun b cur t _ hbb=>⟨cur,t,?_,rfl⟩⟩
   rw[hb.block b (Array.getElem?_eq_some_iff.1 hbb).1];exact hbb
  |map fz ks vs=>simpa only[e]using hp
  |iter fz ks vs=>simpa only[e]using hp
  |know x v=>trivial
 refine⟨⟨m.ext.of_below hb,m.xold,fun id b hl hbb=>?_,m.inj,fun id=>?_,fun id hid=>(m.pin id hid).trans (hg.pass id)⟩,hg⟩
 ·have:=m.fresh id b hl hbb;exact⟨this.1,Nat.lt_of_lt_of_le this.2 hb.size⟩
 ·exact(m.obj id).step hg.size hg.out (fun _ _=>hg.D) (fun _ _=>hg.R) rfl (fun _=>rfl) fun b hl hbb=>hb.block b (m.fresh id b hl hbb).2
theorem fX.newObj(m:fX w0 X H β w)(hb:En w.heap.size w w'){d:Nat}(hd:H d=.absent){o:aX}(B:Option Nat)
 (hB:∀b,B=some b→w.heap.size≤b∧b<w'.heap.size)
 (ho:(∀x v,RD w (Ex X β H) x v→RD w' (Ex X (cN β d B) (cN H d o)) x v)→(∀l v,R w (Ex X β H) β H l v→R w' (Ex X (cN β d B) (cN H d o)) (cN β d B) (cN H d o) l v)→
   fU w' (Ex X (cN β d B) (cN H d o)) (cN β d B) (cN H d o) d):
 fX w0 X (cN H d o) (cN β d B) w'∧lF X H β w (cN H d o) (cN β d B) w':=by
 have hnd:∀id,(H id).live=true→id≠d:=fun id hl e=>by rw[e,hd]at hl;cases hl
 have hg:lF X H β w (cN H d o) (cN β d B) w':=by
  refine⟨hb.size,fun k hk _=>hb.block k hk,fun k hk he=>?_,fun id=>?_⟩
  ·rcases he with he|⟨id,h1,h2⟩
   ·exact .inl he
   ·by_cases hi:id=d
    ·subst hi;rw[aJ]at h2;have:=(hB k h2).1;omega
    ·rw[cP _ _ hi]at h1 h2;exact .inr ⟨id,h1,h2⟩
  ·by_cases hi:id=d
   ·subst hi;unfold cC;rw[hd];trivial
   ·have hp:=(m.grow hb).2.pass id
    unfold cC at*
    rw[cP _ _ hi,cP _ _ hi]
    exact hp
 refine⟨⟨m.ext.of_below hb,m.xold,fun id b hl hbb=>?_,fun i j b hi hj h1 h2=>?_,fun id=>?_,fun id hid=>(m.pin id hid).trans (hg.pass id)⟩,hg⟩
 ·by_cases hi:id=d
  ·subst hi;rw[aJ]at hbb;have h1:=hB b hbb;exact⟨.inl (Nat.le_trans m.ext.size h1.1),h1.2⟩
  ·rw[cP _ _ hi]at hl hbb⊢;have:=m.fresh id b hl hbb;exact⟨this.1,Nat.lt_of_lt_of_le this.2 hb.size⟩
 ·by_cases ei:i=d<;>by_cases ej:j=d
  ·rw[ei,ej]
  ·subst ei;rw[aJ]at h1;rw[cP _ _ ej]at hj h2;have:=hB b h1;have:=(m.fresh j b hj h2).2;omega
  ·subst ej;rw[aJ]at h2;rw[cP _ _ ei]at hi h1;have:=hB b h2;have:=(m.fresh i b hi h1).2;omega
  ·rw[cP _ _ ei]at hi h1;rw[cP _ _ ej]at hj h2;exact m.inj i j b hi hj h1 h2
 ·by_cases hi:id=d
  ·subst hi;exact ho (fun _ _=>hg.D) (fun _ _=>hg.R)
  ·exact(m.obj id).step hg.size hg.out (fun _ _=>hg.D) (fun _ _=>hg.R) (cP _ _ hi) (fun _=>cP _ _ hi) fun b hl hbb=>hb.block b (m.fresh id b hl hbb).2
theorem fX.kill(m:fX w0 X H β w)(d:Nat)(hd:(H d).live=true):fX w0 X (cN H d .dead) β w∧lF X H β w (cN H d .dead) β w:=by
 have hg:lF X H β w (cN H d .dead) β w:=by
  refine⟨Nat.le_refl _,fun _ _ _=>rfl,fun k _ he=>?_,fun id=>?_⟩
  ·rcases he with he|⟨id,h1,h2⟩
   ·exact .inl he
   ·by_cases hi:id=d
    ·subst hi;rw[aJ]at h1;cases h1
    ·rw[cP _ _ hi]at h1;exact .inr ⟨id,h1,h2⟩
  ·by_cases hi:id=d
   ·subst hi;unfold cC;cases e:H id<;>simp_all[aJ,aX.live]
   ·have hp:=cC.refl (w:=w) (β:=β) (H:=H) id
    unfold cC at*
    rw[cP _ _ hi];exact hp
 refine⟨⟨m.ext,m.xold,fun id b hl hbb=>?_,fun i j b hi hj=>?_,fun id=>?_,fun id hid=>(m.pin id hid).trans (hg.pass id)⟩,hg⟩
 ·by_cases hi:id=d
  ·subst hi;rw[aJ]at hl;cases hl
  ·rw[cP _ _ hi]at hl⊢;exact m.fresh id b hl hbb
 ·by_cases ei:i=d
  ·subst ei;rw[aJ]at hi;cases hi
  ·by_cases ej:j=d
   ·subst ej;rw[aJ]at hj;cases hj
   ·rw[cP _ _ ei]at hi;rw[cP _ _ ej]at hj;exact m.inj i j b hi hj
 ·by_cases hi:id=d
  ·subst hi;unfold fU;rw[aJ];trivial
  ·exact(m.obj id).step hg.size hg.out (fun _ _=>hg.D) (fun _ _=>hg.R) (cP _ _ hi) (fun _=>rfl) fun _ _ _=>rfl
theorem fX.moveObj(m:fX w0 X H β w){id d:Nat}{s:Nat}{xs:List DV}(n:Nat)(hid:H id=.row false s xs)(hd:H d=.absent):
 fX w0 X (cN (cN H id .dead) d (.row false s (xs.take n))) (cN β d (β id)) w∧lF X H β w (cN (cN H id .dead) d (.row false s (xs.take n))) (cN β d (β id)) w:=by
 have hne:id≠d:=fun e=>by rw[e,hd]at hid;cases hid
 have hg:lF X H β w (cN (cN H id .dead) d (.row false s (xs.take n))) (cN β d (β id)) w:=by
  refine⟨Nat.le_refl _,fun _ _ _=>rfl,fun k _ he=>?_,fun i=>?_⟩
  ·rcases he with he|⟨i,h1,h2⟩
   ·exact .inl he
   ·by_cases hi:i=d
    ·subst hi;rw[aJ]at h2;exact .inr ⟨id,by rw[hid];rfl,h2⟩
    ·rw[cP _ _ hi]at h1 h2
     by_cases hi2:i=id
     ·subst hi2;rw[aJ]at h1;cases h1
     ·rw[cP _ _ hi2]at h1;exact .inr ⟨i,h1,h2⟩
  ·by_cases hi:i=d
   ·subst hi;unfold cC;rw[hd];trivial
   ·by_cases hi2:i=id
    ·subst hi2;unfold cC;rw[hid,cP _ _ hi,aJ];exact .inl rfl
    ·have hp:=cC.refl (w:=w) (β:=β) (H:=H) i
     unfold cC at*
     rw[cP _ _ hi,cP _ _ hi2,cP _ _ hi];exact hp
 have live:∀i,i≠d→(cN (cN H id .dead) d (.row false s (xs.take n)) i).live=true→i≠id∧(H i).live=true:=fun i hi hl=>by
  rw[cP _ _ hi]at hl
  by_cases hi2:i=id
  ·subst hi2;rw[aJ]at hl;cases hl
  ·rw[cP _ _ hi2]at hl;exact⟨hi2,hl⟩
 have hlid:(H id).live=true:=by rw[hid];rfl
 refine⟨⟨m.ext,m.xold,fun i b hl hbb=>?_,fun i j b hi hj h1 h2=>?_,fun i=>?_,fun id hid=>(m.pin id hid).trans (hg.pass id)⟩,hg⟩
 ·by_cases hi:i=d
  ·subst hi;rw[aJ]at hbb;exact(m.fresh id b hlid hbb).imp (Or.imp (fun h=>h) fun h=>⟨h.1,fun _=>h.2 (by rw[hid];rfl)⟩) (fun h=>h)
  ·rw[cP _ _ hi]at hbb
   refine(m.fresh i b (live i hi hl).2 hbb).imp (Or.imp (fun h=>h) fun h=>⟨h.1,fun hm=>h.2 ?_⟩) (fun h=>h)
   rw[cP _ _ hi,cP _ _ (live i hi hl).1]at hm;exact hm
 ·by_cases ei:i=d<;>by_cases ej:j=d
  ·rw[ei,ej]
  ·subst ei;rw[aJ]at h1;rw[cP _ _ ej]at h2;obtain⟨e1,e2⟩:=live j ej hj;exact absurd (m.inj id j b hlid e2 h1 h2).symm e1
  ·subst ej;rw[aJ]at h2;rw[cP _ _ ei]at h1;obtain⟨e1,e2⟩:=live i ei hi;exact absurd (m.inj i id b e2 hlid h1 h2) e1
  ·rw[cP _ _ ei]at h1;rw[cP _ _ ej]at h2;exact m.inj i j b (live i ei hi).2 (live j ej hj).2 h1 h2
 ·by_cases hi:i=d
  ·subst hi
   have ho:=m.obj id
   unfold fU at*
   rw[hid]at ho
   rw[aJ]
   simp only[]at ho⊢
   obtain⟨h0,h1,h2⟩:=ho
   have hle:(xs.take n).length≤xs.length:=by simp;omega
   refine⟨h0,fun x hx=>h1 x (List.mem_of_mem_take hx),?_⟩
   rcases h2 with⟨h2,h3⟩|⟨b,t,cur,h2,h3,h4,h5⟩
   ·exact .inl ⟨by rw[aJ];exact h2,by simp[h3]⟩
   ·refine .inr ⟨b,t,cur,by rw[aJ];exact h2,h3,Nat.le_trans (Nat.mul_le_mul_right _ hle) h4,fun k dd v hdd hv=>?_⟩
    rw[oD h1,List.getElem?_take]at hdd
    split at hdd
    ·exact⟨(h5 k dd v hdd hv).1,hg.D (h5 k dd v hdd hv).2⟩
    ·cases hdd
  ·by_cases hi2:i=id
   ·subst hi2;unfold fU;rw[cP _ _ hi,aJ];trivial
   ·exact(m.obj i).step hg.size hg.out (fun _ _=>hg.D) (fun _ _=>hg.R) (by rw[cP _ _ hi,cP _ _ hi2]) (fun _=>cP _ _ hi) fun _ _ _=>rfl
theorem fX.rewriteH{H0:Nat→aX}{β0:Nat→Option Nat}{w00:World}(m:fX w0 X H β w)(m0:fX w0 X H0 β0 w00)(g0:lF X H0 β0 w00 H β w){id b:Nat}{o':aX}(hm:(H id).mut=true)(hb:β id=some b){w':World}(hos:w'.os=w.os)(htape:w'.tape=w.tape)(hout:w'.output=w.output)(hdr:w.drawn≤w'.drawn)(hsize:w'.heap.size=w.heap.size)(hother:∀k,k≠b→w'.heap[k]? =w.heap[k]?)
 (hpass:cC w00 β0 H0 w' β (cN H id o') id)
 (hpl:cC w β H w' β (cN H id o') id)
 (ho:(∀x v,RD w (Ex X β H) x v→RD w' (Ex X β (cN H id o')) x v)→(∀l v,R w (Ex X β H) β H l v→R w' (Ex X β (cN H id o')) β (cN H id o') l v)→
   fU w' (Ex X β (cN H id o')) β (cN H id o') id):
 fX w0 X (cN H id o') β w'∧lF X H0 β0 w00 (cN H id o') β w':=by
 have hlive:=cY hm
 have hmut:∀i,(cN H id o' i).mut=true→(H i).mut=true:=fun i h=>by
  by_cases hi:i=id
  ·subst hi;exact hm
  ·rw[cP _ _ hi]at h;exact h
 have hlv:∀i,(cN H id o' i).live=true→(H i).live=true:=fun i h=>by
  by_cases hi:i=id
  ·subst hi;exact hlive
  ·rw[cP _ _ hi]at h;exact h
 have hsub:∀k,Ex X β (cN H id o') k→Ex X β H k:=fun k he=>by
  rcases he with he|⟨i,h1,h2⟩
  ·exact .inl he
  ·exact .inr ⟨i,hmut i h1,h2⟩
 have hblk':∀k,¬Ex X β H k→w'.heap[k]? =w.heap[k]? :=fun k he=>hother k (fun e=>he (.inr ⟨id,hm,by rw[e];exact hb⟩))
 have hD:∀x v,RD w (Ex X β H) x v→RD w' (Ex X β (cN H id o')) x v:=fun x v h=>h.step (fun k _ he=>hblk' k he) (by rw[hsize];exact Nat.le_refl _) (fun k _ he=>hsub k he)
 have hpo:∀i,i≠id→cC w β H w' β (cN H id o') i:=fun i hi=>by
  have hp:=cC.refl (w:=w) (β:=β) (H:=H) i
  unfold cC at*
  rw[cP _ _ hi]
  cases eH:H i with
  |absent=>trivial
  |dead=>rfl
  |box fz cs=>simpa only[eH]using hp
  |row fz s xs=>
   refine .inr ⟨⟨fz,xs,rfl,Nat.le_refl _⟩,rfl,fun b' c t hbb hblk'=>⟨c,t,?_,rfl⟩⟩
   rw[hother b' (fun e=>?_)]
   ·exact hblk'
   ·subst e;exact hi (m.inj i id b' (by rw[eH];rfl) hlive hbb hb)
  |map fz ks vs=>simpa only[eH]using hp
  |iter fz ks vs=>simpa only[eH]using hp
  |know x v=>trivial
 have hR:∀l v,R w (Ex X β H) β H l v→R w' (Ex X β (cN H id o')) β (cN H id o') l v:=fun l v h=>h.step hD fun i=>by
  by_cases hi:i=id
  ·subst hi;exact hpl
  ·exact hpo i hi
 have hg:lF X H0 β0 w00 (cN H id o') β w':=by
  refine⟨by rw[hsize];exact g0.size,fun k hk he=>(hblk' k fun h=>he (g0.sub k hk h)).trans (g0.blk k hk he),fun k hk he=>g0.sub k hk (hsub k he),fun i=>?_⟩
  by_cases hi:i=id
  ·subst hi;exact hpass
  ·exact(g0.pass i).trans (hpo i hi)
 refine⟨⟨⟨hos.trans m.ext.os,htape.trans m.ext.tape,hout.trans m.ext.output,by rw[hsize];exact m.ext.size,fun k hk' hno=>(hother k (fun e=>?_)).trans (m.ext.block k hk' hno),Nat.le_trans m.ext.drawn hdr⟩,m.xold,fun i b' hl hbb=>?_,fun i j b' hi hj=>m.inj i j b' (hlv i hi) (hlv j hj),fun i=>?_,fun id hid=>(m0.pin id hid).trans (hg.pass id)⟩,hg⟩
 ·subst e
  rcases(m.fresh id k hlive hb).1 with h|h
  ·omega
  ·exact hno (h.2 hm)
 ·have:=m.fresh i b' (hlv i hl) hbb
  rw[hsize]
  exact this.imp (Or.imp (fun h=>h) fun h=>⟨h.1,fun hm'=>h.2 (hmut i hm')⟩) (fun h=>h)
 ·by_cases hi:i=id
  ·subst hi;exact ho hD hR
  ·exact(m.obj i).step (by rw[hsize];exact Nat.le_refl _) (fun k _ he=>⟨hblk' k he,fun h=>he (hsub k h)⟩) hD hR (cP _ _ hi) (fun _=>rfl) fun b' hl hbb=>
    hother b' (fun e=>by subst e;exact hi (m.inj i id b' hl hlive hbb hb))
theorem fX.rewriteG(m:fX w0 X H β w){id b:Nat}{o':aX}(hm:(H id).mut=true)(hb:β id=some b){w':World}(hos:w'.os=w.os)(htape:w'.tape=w.tape)(hout:w'.output=w.output)(hdr:w.drawn≤w'.drawn)(hsize:w'.heap.size=w.heap.size)(hother:∀k,k≠b→w'.heap[k]? =w.heap[k]?)
 (hpass:cC w β H w' β (cN H id o') id)
 (ho:(∀x v,RD w (Ex X β H) x v→RD w' (Ex X β (cN H id o')) x v)→(∀l v,R w (Ex X β H) β H l v→R w' (Ex X β (cN H id o')) β (cN H id o') l v)→
   fU w' (Ex X β (cN H id o')) β (cN H id o') id):
 fX w0 X (cN H id o') β w'∧lF X H β w (cN H id o') β w':=m.rewriteH m lF.refl hm hb hos htape hout hdr hsize hother hpass hpass ho
theorem fX.rewrite(m:fX w0 X H β w){id b:Nat}{o':aX}(hm:(H id).mut=true)(hb:β id=some b){cur cur':Array Value}{e:TypeId}(hblk:w.heap[b]? =some (.cells cur e (0,0)))(hsz:cur'.size=cur.size)
 (hk:(∃cs cs',H id=.box false cs∧o'=.box false cs')∨∃s xs xs',H id=.row false s xs∧o'=.row false s xs'∧xs.length≤xs'.length)
 (ho:(∀x v,RD w (Ex X β H) x v→RD (w.setRow b cur') (Ex X β (cN H id o')) x v)→(∀l v,R w (Ex X β H) β H l v→R (w.setRow b cur') (Ex X β (cN H id o')) β (cN H id o') l v)→
   fU (w.setRow b cur') (Ex X β (cN H id o')) β (cN H id o') id):
 fX w0 X (cN H id o') β (w.setRow b cur')∧lF X H β w (cN H id o') β (w.setRow b cur'):=by
 refine m.rewriteG hm hb rfl rfl rfl (Nat.le_refl _) (by simp[World.setRow]) (fun k hk=>setRow_other w b k cur' (fun e=>hk (by first|exact e|exact e.symm))) ?_ ho
 unfold cC
 rw[aJ]
 rcases hk with⟨cs,cs',h1,h2⟩|⟨s,xs,xs',h1,h2,h3⟩
 ·rw[h1,h2];exact .inr ⟨⟨false,cs',rfl⟩,rfl⟩
 ·rw[h1,h2]
  refine .inr ⟨⟨false,xs',rfl,h3⟩,rfl,fun b' c t hbb hblk'=>?_⟩
  rw[hb]at hbb;injection hbb with hbb;subst hbb
  rw[hblk]at hblk'
  injection hblk' with hblk'
  injection hblk' with e1 e2
  subst e1;subst e2
  exact⟨cur',e,setRow_heap w b cur cur' e (0,0) hblk,hsz⟩
end
end Go.Eng
namespace Go.Eng
open Go.RowKit
def uL:TypeDesc→TK→Prop
 | .int k,.int k'=>k=k'
 | .bool,.bool=>True
 | .string,.str=>True
 | .slice e,.slice e'=>e=e'
 | .struct fs,.struct l=>fs.toList.map (fun f=>(f.offset,f.type))=l
 | .array n e,.arr n' e'=>n=n'∧e=e'
 | .pointer e,.ptr e'=>e=e'
 | .map k e,.map k' e'=>k=k'∧e=e'
 | .map _ _,.other=>True
 | .func _ _ _,.other=>True
 | .interface _,.other=>True
 | .tuple _,.other=>True
 |_,_=>False
def pZ(P:Program)(t:TypeId):TK→Prop
 | .int k=>P.underlying t=some (.int k)
 | .bool=>P.underlying t=some .bool
 | .str=>P.underlying t=some .string
 |_=>False
def uM(P:Program)(t:TypeId)(ks:List TK):Prop:=P.stoodInHeld t=false∧∃fs,P.underlying t=some (.struct fs)∧fs.toList.length=ks.length∧
    ∀(j:Nat) (f:Field) (k:TK),fs.toList[j]? =some f→ks[j]? =some k→f.name≠ "_" ∧f.offset=j∧pZ P f.type k
def JF(P:Program)(t:TypeId)(ks:List TK):Prop:=∃n e inf kse,P.underlying t=some (.array n e)∧P.info? e=some inf∧inf.size=kse.length∧uM P e kse∧ks=(List.replicate n kse).flatten
structure Rm(P:Program)(t:TypeId)(i:lA):Prop where
 all:∃inf d z,P.info? t=some inf∧P.underlying t=some d∧uL d i.k∧inf.size=i.size∧inf.bytes=i.bytes∧inf.zero=some z∧z.cells.toList=i.zero
 one:∀u∈i.zero,u.oneCell'=true
 zv:∃inf,P.info? t=some inf∧inf.zero=some (if i.k.agg then .agg i.zero.toArray else i.zero.getD 0 undef)∧(i.k.agg=false→i.zero.length=1)
 len:i.zero.length=i.size
 eqk:i.eqk≠[]→P.eqGuardType P.depth t=false∧(uM P t i.eqk∨JF P t i.eqk)
def mA(P:Program)(T:TypeId→lA):Prop:=∀t,(T t).k.isNone=false→Rm P t (T t)
def pP(P:Program)(w0:iU)(X:Nat→Prop)(H:Nat→aX)(β:Nat→Option Nat)(w:World)(a:Act)(o:Oper)(r:oZ):Prop:=
 ∀(K:Act→World→Prop) (Q:Exit→Act→World→Prop),(∀v w' β',fX w0 X (bG H r.up) β' w'→lF X H β w (bG H r.up) β' w'→R w' (Ex X β' (bG H r.up)) β' (bG H r.up) r.v v→K (a.put o.dst v) w')→o.wp P a w K Q
def Mj(P:Program)(w0:iU)(X:Nat→Prop)(H:Nat→aX)(β:Nat→Option Nat)(w:World)(a:Act)(o:Oper)(rs:oZ→Prop):Prop:=
 ∀(K:Act→World→Prop) (Q:Exit→Act→World→Prop),(∀r,rs r→∀v w' β',fX w0 X (bG H r.up) β' w'→lF X H β w (bG H r.up) β' w'→R w' (Ex X β' (bG H r.up)) β' (bG H r.up) r.v v→K (a.put o.dst v) w')→o.wp P a w K Q
section
variable{P:Program} {T:TypeId→lA} {w0:iU} {X:Nat→Prop} {H:Nat→aX} {β:Nat→Option Nat} {w:World} {a:Act} {o:Oper} {g:Operand→LV}
theorem pP.toE{r:oZ}{rs:oZ→Prop}(h:pP P w0 X H β w a o r)(hr:rs r):Mj P w0 X H β w a o rs:=fun K Q hK=>h K Q (hK r hr)
theorem Mj.toS{r:oZ}{rs:oZ→Prop}(h:Mj P w0 X H β w a o rs)(hr:∀r',rs r'→r'.v=r.v∧r'.up=r.up):pP P w0 X H β w a o r:=fun K Q hK=>h K Q fun r' h' v w' β'=>by
 obtain⟨e1,e2⟩:=hr r' h'
 rw[e1,e2]
 exact hK v w' β'
theorem Mj.mono{rs rs':oZ→Prop}(h:Mj P w0 X H β w a o rs)(hr:∀r,rs r→∃r',rs' r'∧r'.v=r.v∧r'.up=r.up):Mj P w0 X H β w a o rs':=fun K Q hK=>h K Q fun r h' v w' β'=>by
 obtain⟨r',h1,e1,e2⟩:=hr r h'
 rw[←e1,←e2]
 exact hK r' h1 v w' β'
theorem bQ{r:oZ}{v:Value}{w':World}{β':Nat→Option Nat}(hr:(execOp a.eval o).run P w=.ok (.value v) w')(m:fX w0 X (bG H r.up) β' w')(gg:lF X H β w (bG H r.up) β' w')
 (hv:R w' (Ex X β' (bG H r.up)) β' (bG H r.up) r.v v):pP P w0 X H β w a o r:=by
 intro K Q hK
 unfold Oper.wp
 rw[hr]
 exact hK v w' β' m gg hv
theorem pP.plain(m:fX w0 X H β w){lv:LV}{c:Prop}{v:Value}(hr:(execOp a.eval o).run P w=.ok (.value v) w)(hv:R w (Ex X β H) β H lv v):pP P w0 X H β w a o ⟨lv,c,[]⟩:=
 bQ hr m lF.refl hv
theorem mA.parts(hT:mA P T){t:TypeId}(h:(T t).k.isNone=false):∃inf d z,P.info? t=some inf∧P.underlying t=some d∧uL d (T t).k∧inf.size=(T t).size∧inf.bytes=(T t).bytes∧inf.zero=some z∧z.cells.toList=(T t).zero:=(hT t h).all
theorem mA.slice(hT:mA P T){t e:TypeId}(h:(T t).k=.slice e):P.underlying t=some (.slice e):=by
 obtain⟨inf,d,z,h1,h2,h3,_⟩:=hT.parts (t:=t) (by rw[h];rfl)
 rw[h]at h3
 cases d<;>simp_all[uL]
theorem mA.mapd(hT:mA P T){t k e:TypeId}(h:(T t).k=.map k e):P.underlying t=some (.map k e):=by
 obtain⟨inf,d,z,h1,h2,h3,_⟩:=hT.parts (t:=t) (by rw[h];rfl)
 rw[h]at h3
 cases d<;>simp_all[uL]
theorem mA.bool(hT:mA P T){t:TypeId}(h:(T t).k=.bool):P.underlying t=some .bool:=by
 obtain⟨inf,d,z,h1,h2,h3,_⟩:=hT.parts (t:=t) (by rw[h];rfl)
 rw[h]at h3
 cases d<;>simp_all[uL]
theorem mA.int(hT:mA P T){t:TypeId}{k:IntKind}(h:(T t).k=.int k):P.underlying t=some (.int k):=by
 obtain⟨inf,d,z,h1,h2,h3,_⟩:=hT.parts (t:=t) (by rw[h];rfl)
 rw[h]at h3
 cases d<;>simp_all[uL]
theorem mA.str(hT:mA P T){t:TypeId}(h:(T t).k=.str):P.underlying t=some .string:=by
 obtain⟨inf,d,z,h1,h2,h3,_⟩:=hT.parts (t:=t) (by rw[h];rfl)
 rw[h]at h3
 cases d<;>simp_all[uL]
theorem mA.arr(hT:mA P T){t e:TypeId}{n:Nat}(h:(T t).k=.arr n e):P.underlying t=some (.array n e):=by
 obtain⟨inf,d,z,h1,h2,h3,_⟩:=hT.parts (t:=t) (by rw[h];rfl)
 rw[h]at h3
 cases d<;>simp_all[uL]
theorem mA.struct(hT:mA P T){t:TypeId}{l:List (Nat×TypeId)}(h:(T t).k=.struct l):∃fs,P.underlying t=some (.struct fs)∧fs.toList.map (fun f=>(f.offset,f.type))=l:=by
 obtain⟨inf,d,z,h1,h2,h3,_⟩:=hT.parts (t:=t) (by rw[h];rfl)
 rw[h]at h3
 cases d<;>simp_all[uL]
theorem Ep:∀(cs:List LV) (ds:List DV),sO cs=some ds→cs=ds.map .d
 |[],ds,h=>by simp[sO]at h;subst h;rfl
 |c::r,ds,h=>by
  cases c<;>simp only[sO,Option.map_eq_some_iff,reduceCtorEq]at h
  obtain⟨ys,h1,rfl⟩:=h
  rw[Ep r ys h1];rfl
theorem R.mkAgg{E:Nat→Prop}{cs:List LV}{vs:List Value}(hl:vs.length=cs.length)(h1:∀u∈vs,u.oneCell'=true)(h:∀(i:Nat) (c:LV) (v:Value),cs[i]? =some c→vs[i]? =some v→R w E β H c v):R w E β H (mkAgg cs) (.agg vs.toArray):=by
 unfold Eng.mkAgg
 cases e:sO cs with
 |none=>exact .agg cs vs hl h1 h
 |some ds=>
  have:=Ep cs ds e
  subst this
  refine .d _ _ (.agg ds vs (by simpa using hl) h1 fun i c v hc hv=>?_)
  have:=h i (.d c) v (by simp[hc]) hv
  cases this with|d _ _ h=>exact h
theorem JG(m:fX w0 X H β w)(hg:∀x,R w (Ex X β H) β H (g x) (a.eval x))(x:Operand)(ho:o.op=.move x∨o.op=.assign x):pP P w0 X H β w a o (.plain (g x)):=
 pP.plain m (v:=a.eval x) (by rcases ho with ho|ho<;>simp[execOp,ho]) (hg x)
theorem R.int{E:Nat→Prop}{k:IntKind}{n:Int}{v:Value}(h:R w E β H (.d (.int k n)) v):v=.int k n:=by cases h with|d _ _ h=>cases h;rfl
theorem R.bool{E:Nat→Prop}{b:Bool}{v:Value}(h:R w E β H (.d (.bool b)) v):v=.bool b:=by cases h with|d _ _ h=>cases h;rfl
theorem R.str{E:Nat→Prop}{s:List UInt8}{v:Value}(h:R w E β H (.d (.str s)) v):v=.string ⟨s.toArray⟩:=by cases h with|d _ _ h=>cases h;rfl
theorem cI{E:Nat→Prop}(k:IntKind)(n:Int):R w E β H (.d (.int k n)) (.int k n):=.d _ _ (.int k n)
theorem dM{E:Nat→Prop}(b:Bool):R w E β H (.d (.bool b)) (.bool b):=.d _ _ (.bool b)
theorem Ac{E:Nat→Prop}(s:List UInt8):R w E β H (.d (.str s)) (.string ⟨s.toArray⟩):=.d _ _ (.str s)
theorem Ad(d:Nat):∀(xs ys:List DV) (ks:List TK) (vx vy:List Value) (A B:Array Value) (fs:List Field) (j:Nat) (c:Bool) (E:Nat→Prop),
 jI xs ys=some c→bD ks xs=true→vx.length=xs.length→vy.length=ys.length→fs.length=ks.length→
 (∀(i:Nat) (c:DV) (v:Value),xs[i]? =some c→vx[i]? =some v→RD w E c v)→(∀(i:Nat) (c:DV) (v:Value),ys[i]? =some c→vy[i]? =some v→RD w E c v)→
 (∀(i:Nat) v,vx[i]? =some v→A[j+i]? =some v)→(∀(i:Nat) v,vy[i]? =some v→B[j+i]? =some v)→
 (∀(i:Nat) (f:Field) (k:TK),fs[i]? =some f→ks[i]? =some k→f.name≠ "_" ∧f.offset=j+i∧pZ P f.type k)→
 (Op.eqFields (d+1) A B fs).run P w=.ok c w:=by
 intro xs
 induction xs with
 |nil=>
  intro ys ks vx vy A B fs j c E h1 hk h2 h3 h4 _ _ _ _ _
  cases ys with
  |nil=>
   simp only[jI,Option.some.injEq]at h1;subst h1
   cases ks with
   |nil=>have:fs=[]:=List.eq_nil_of_length_eq_zero (by simpa using h4);subst this;simp[Op.eqFields]
   |cons=>simp[bD]at hk
  |cons=>simp[jI]at h1
 |cons x xs ih=>
  intro ys ks vx vy A B fs j c E h1 hk h2 h3 h4 hx hy hA hB hf
  cases ks with
  |nil=>simp[bD]at hk
  |cons k ks=>
  cases ys with
  |nil=>simp[jI]at h1
  |cons y ys=>
   match vx,h2,vy,h3,fs,h4 with
   |u::vx,h2,v::vy,h3,f::fs,h4=>
    simp only[bD,Bool.and_eq_true]at hk
    simp only[jI]at h1
    cases e1:AT x y with
    |none=>simp[e1]at h1
    |some p=>
     cases e2:jI xs ys with
     |none=>simp[e1,e2]at h1
     |some q=>
      simp only[e1,e2,Option.some.injEq]at h1
      subst h1
      obtain⟨hn,hoff,hty⟩:=hf 0 f k rfl rfl
      have hu:=hx 0 x u rfl rfl
      have hv:=hy 0 y v rfl rfl
      have hAu:A[j]? =some u:=hA 0 u rfl
      have hBv:B[j]? =some v:=hB 0 v rfl
      have hrest:=ih ys ks vx vy A B fs (j+1) q E e2 hk.2 (by simpa using h2) (by simpa using h3) (by simpa using h4)
       (fun i c v hc hv=>hx (i+1) c v (by simpa using hc) (by simpa using hv)) (fun i c v hc hv=>hy (i+1) c v (by simpa using hc) (by simpa using hv))
       (fun i v hv=>by have:=hA (i+1) v (by simpa using hv);rw[Nat.add_assoc,Nat.add_comm 1 i];exact this)
       (fun i v hv=>by have:=hB (i+1) v (by simpa using hv);rw[Nat.add_assoc,Nat.add_comm 1 i];exact this)
       (fun i f k hf' hk'=>by have:=hf (i+1) f k (by simpa using hf') (by simpa using hk');rw[Nat.add_assoc,Nat.add_comm 1 i];exact this)
      have hnagg:∀cs i v,cs[i]? =some v→(part f.type cs i).run P w=.ok v w:=by
       intro cs i v hcs
       cases k<;>simp only[pZ]at hty<;>first|exact hty.elim|simp[part,isAgg,run_underlying hty,hcs]
      have heq:(Op.equalIn (d+1) f.type u v).run P w=.ok p w:=by
       have hk1:=hk.1
       cases x<;>cases y<;>simp only[AT,reduceCtorEq,Option.some.injEq,Option.ite_none_right_eq_some]at e1
       ·obtain⟨e1,e3⟩:=e1;subst e1;subst e3
        cases hu;cases hv
        cases k<;>simp only[hU,Bool.false_eq_true]at hk1
        rw[run_equalIn_int w d f.type _ _ _ _ hty]
        congr 1
       ·subst e1
        cases hu;cases hv
        cases k<;>simp only[hU,Bool.false_eq_true]at hk1
        exact run_equalIn_bool' w d f.type _ _ hty
       ·subst e1
        cases hu;cases hv
        cases k<;>simp only[hU,Bool.false_eq_true]at hk1
        rw[run_equalIn_string w d f.type _ _ hty,ByteArray.toList_eq,ByteArray.toList_eq]
      simp only[Op.eqFields,hn,ne_eq,not_false_eq_true,if_true,Sem.run_bind,hoff,Nat.add_zero,hnagg _ _ _ hAu,hnagg _ _ _ hBv,Result.andThen_ok,heq,Sem.run_ite]
      cases p
      ·simp
      ·simpa using hrest
end
end Go.Eng
namespace Go.Eng
open Go.RowKit
section
variable{P:Program} {T:TypeId→lA} {w0:iU} {X:Nat→Prop} {H:Nat→aX} {β:Nat→Option Nat} {w:World} {a:Act} {o:Oper} {g:Operand→LV} {E:Nat→Prop}
theorem Eq(op:BinOp)(t:TypeId)(ox oy:Operand)(k:IntKind)(n:Int)(v:Value):(eqGuard op t ox oy (.int k n) v).run P w=.ok () w:=by cases op<;>cases v<;>rfl
theorem Ie(op:BinOp)(t:TypeId)(ox oy:Operand)(b:Bool)(v:Value):(eqGuard op t ox oy (.bool b) v).run P w=.ok () w:=by cases op<;>cases v<;>rfl
theorem Kv(op:BinOp)(t:TypeId)(ox oy:Operand)(s:ByteArray)(v:Value):(eqGuard op t ox oy (.string s) v).run P w=.ok () w:=by cases op<;>cases v<;>rfl
theorem OO(op:BinOp)(t:TypeId)(ks:List TK)(tb:Bool){k k':IntKind}{a b:Int}(hok:(dP ks tb op (.d (.int k a)) (.d (.int k' b))).ok):
 ∃v,(binOp op t (.int k a) (.int k' b)).run P w=.ok v w∧(dP ks tb op (.d (.int k a)) (.d (.int k' b))).up=[]∧R w E β H (dP ks tb op (.d (.int k a)) (.d (.int k' b))).v v:=by
 unfold dP at*
 cases op with
 |add=>
  simp only at hok⊢
  by_cases hk:k=k'
  ·subst hk
   by_cases h64:k=.i64
   ·subst h64
    simp only[if_true,oZ.cond]at hok⊢
    exact⟨_,by simp[binOp,Op.intArith,IntWalk.i64_in _ hok],by trivial,cI _ _⟩
   ·simp only[if_true,if_neg h64,oZ.plain]at hok⊢
    exact⟨_,by simp[binOp,Op.intArith],by trivial,cI _ _⟩
  ·simp only[if_neg hk,oZ.fail]at hok
 |sub=>
  simp only at hok⊢
  by_cases hk:k=k'
  ·subst hk
   by_cases h64:k=.i64
   ·subst h64
    simp only[if_true,oZ.cond]at hok⊢
    exact⟨_,by simp[binOp,Op.intArith,IntWalk.i64_in _ hok],by trivial,cI _ _⟩
   ·simp only[if_true,if_neg h64,oZ.plain]at hok⊢
    exact⟨_,by simp[binOp,Op.intArith],by trivial,cI _ _⟩
  ·simp only[if_neg hk,oZ.fail]at hok
 |mul=>
  simp only at hok⊢
  by_cases hk:k=k'
  ·subst hk
   by_cases h64:k=.i64
   ·subst h64
    simp only[if_true,oZ.cond]at hok⊢
    exact⟨_,by simp[binOp,Op.intArith,IntWalk.i64_in _ hok],by trivial,cI _ _⟩
   ·simp only[if_true,if_neg h64,oZ.plain]at hok⊢
    exact⟨_,by simp[binOp,Op.intArith],by trivial,cI _ _⟩
  ·simp only[if_neg hk,oZ.fail]at hok
 |quo=>
  simp only at hok⊢
  by_cases hk:k=k'
  ·subst hk
   by_cases h64:k=.i64
   ·subst h64
    simp only[if_true,oZ.cond]at hok⊢
    exact⟨_,by simp[binOp,Op.intDiv,hok.1,IntWalk.i64_in _ hok.2],by trivial,cI _ _⟩
   ·simp only[if_true,if_neg h64,oZ.cond]at hok⊢
    exact⟨_,by simp[binOp,Op.intDiv,hok],by trivial,cI _ _⟩
  ·simp only[if_neg hk,oZ.fail]at hok
 |rem=>
  simp only at hok⊢
  by_cases hk:k=k'
  ·subst hk
   simp only[if_true,oZ.cond]at hok⊢
   exact⟨_,by simp[binOp,Op.intDiv,hok],by trivial,cI _ _⟩
  ·simp only[if_neg hk,oZ.fail]at hok
 |shl=>
  simp only[oZ.cond]at hok⊢
  exact⟨_,by simp[binOp,Op.shift,Int.not_lt.2 hok],by trivial,cI _ _⟩
 |shr=>
  simp only[oZ.cond]at hok⊢
  exact⟨_,by simp[binOp,Op.shift,Int.not_lt.2 hok],by trivial,cI _ _⟩
 |andNot=>exact hok.elim
 |and=>
  simp only at hok⊢
  by_cases hk:k=k'
  ·subst hk
   simp only[if_true,oZ.plain]at hok⊢
   exact⟨_,by simp[binOp,Op.intBits],by trivial,cI _ _⟩
  ·simp only[if_neg hk,oZ.fail]at hok
 |or=>
  simp only at hok⊢
  by_cases hk:k=k'
  ·subst hk
   simp only[if_true,oZ.plain]at hok⊢
   exact⟨_,by simp[binOp,Op.intBits],by trivial,cI _ _⟩
  ·simp only[if_neg hk,oZ.fail]at hok
 |xor=>
  simp only at hok⊢
  by_cases hk:k=k'
  ·subst hk
   simp only[if_true,oZ.plain]at hok⊢
   exact⟨_,by simp[binOp,Op.intBits],by trivial,cI _ _⟩
  ·simp only[if_neg hk,oZ.fail]at hok
 |lss=>
  simp only at hok⊢
  by_cases hk:k=k'
  ·subst hk
   simp only[if_true,oZ.plain]at hok⊢
   exact⟨_,by simp[binOp,Op.intCmp],by trivial,dM _⟩
  ·simp only[if_neg hk,oZ.fail]at hok
 |leq=>
  simp only at hok⊢
  by_cases hk:k=k'
  ·subst hk
   simp only[if_true,oZ.plain]at hok⊢
   exact⟨_,by simp[binOp,Op.intCmp],by trivial,dM _⟩
  ·simp only[if_neg hk,oZ.fail]at hok
 |gtr=>
  simp only at hok⊢
  by_cases hk:k=k'
  ·subst hk
   simp only[if_true,oZ.plain]at hok⊢
   exact⟨_,by simp[binOp,Op.intCmp],by trivial,dM _⟩
  ·simp only[if_neg hk,oZ.fail]at hok
 |geq=>
  simp only at hok⊢
  by_cases hk:k=k'
  ·subst hk
   simp only[if_true,oZ.plain]at hok⊢
   exact⟨_,by simp[binOp,Op.intCmp],by trivial,dM _⟩
  ·simp only[if_neg hk,oZ.fail]at hok
 |eql=>
  simp only at hok⊢
  by_cases hk:k=k'
  ·subst hk
   simp only[if_true,oZ.plain]at hok⊢
   exact⟨_,by simp[binOp,Op.intCmp];rfl,by trivial,dM _⟩
  ·simp only[if_neg hk,oZ.fail]at hok
 |neq=>
  simp only at hok⊢
  by_cases hk:k=k'
  ·subst hk
   simp only[if_true,oZ.plain]at hok⊢
   exact⟨_,by simp[binOp,Op.intCmp];rfl,by trivial,dM _⟩
  ·simp only[if_neg hk,oZ.fail]at hok
theorem zI{t:TypeId}{ks:List TK}(h:uM P t ks)(d:Nat){a b:List DV}{c:Bool}{us vs:List Value}(he:jI a b=some c)(hk:bD ks a=true)(hul:us.length=a.length)(hvl:vs.length=b.length)
 (hup:∀(i:Nat) (c:DV) (v:Value),a[i]? =some c→us[i]? =some v→RD w E c v)(hvp:∀(i:Nat) (c:DV) (v:Value),b[i]? =some c→vs[i]? =some v→RD w E c v):
 (Op.equalIn (d+2) t (.agg us.toArray) (.agg vs.toArray)).run P w=.ok c w:=by
 obtain⟨g2,fs,g3,g4,g5⟩:=h
 have hfo:P.fieldsOf t=fs:=by simp[Program.fieldsOf,g3]
 have hrun:=run_equalIn_struct (P:=P) w (d+1) t us.toArray vs.toArray (by rw[hfo];exact g3) g2
 rw[hfo,Ad d a b ks us vs us.toArray vs.toArray fs.toList 0 c E he hk hul hvl g4 hup hvp (fun i v h=>by simpa using h) (fun i v h=>by simpa using h) (fun i f k h1 h2=>by simpa using g5 i f k h1 h2)]at hrun
 exact hrun
theorem CH:∀{a b:List DV} {c:Bool},jI a b=some c→a.length=b.length
 |[],[],_,_=>rfl
 |x::a,y::b,c,h=>by
  simp only[jI]at h
  split at h
  ·rename_i h2;simp[CH h2]
  ·cases h
 |[],_::_,_,h=>by simp[jI]at h
 |_::_,[],_,h=>by simp[jI]at h
theorem CI:∀(n:Nat) {a b:List DV} {c:Bool},jI a b=some c→∃p q,jI (a.take n) (b.take n)=some p∧jI (a.drop n) (b.drop n)=some q∧c=(p&&q)
 |0,a,b,c,h=>⟨true,c,by simp[jI],by simpa using h,by simp⟩
 |n+1,[],[],c,h=>by simp[jI]at h;subst h;exact⟨true,true,by simp[jI],by simp[jI],rfl⟩
 |n+1,x::a,y::b,c,h=>by
  simp only[jI]at h
  split at h
  ·rename_i p q h1 h2
   obtain⟨p',q',e1,e2,e3⟩:=CI n h2
   refine⟨p&&p',q',by simp[jI,h1,e1],by simpa using e2,?_⟩
   injection h with h
   rw[←h,e3,Bool.and_assoc]
  ·cases h
 |_+1,[],_::_,_,h=>by simp[jI]at h
 |_+1,_::_,[],_,h=>by simp[jI]at h
theorem Ae:∀{ks:List TK} {a:List DV},bD ks a=true→a.length=ks.length
 |[],[],_=>rfl
 |_::ks,_::a,h=>by simp only[bD,Bool.and_eq_true]at h;simp[Ae h.2]
 |[],_::_,h=>by simp[bD]at h
 |_::_,[],h=>by simp[bD]at h
theorem wR:∀{ks ls:List TK} {a:List DV},bD (ks++ls) a=true→bD ks (a.take ks.length)=true∧bD ls (a.drop ks.length)=true
 |[],_,_,h=>⟨by simp[bD],by simpa using h⟩
 |_::ks,ls,[],h=>by simp[bD]at h
 |_::ks,ls,_::a,h=>by
  simp only[List.cons_append,bD,Bool.and_eq_true]at h
  obtain⟨h1,h2⟩:=wR h.2
  exact⟨by simp[bD,h.1,h1],by simpa using h2⟩
theorem BE{e:TypeId}{inf:TypeInfo}{kse:List TK}(hi:P.info? e=some inf)(hsz:inf.size=kse.length)(hs:uM P e kse)(d:Nat)(xs ys:Array Value):∀(m k:Nat) (a b:List DV) (c:Bool) (us vs:List Value),
 jI a b=some c→bD (List.replicate m kse).flatten a=true→us.length=a.length→vs.length=b.length→
 (∀(i:Nat) (c:DV) (v:Value),a[i]? =some c→us[i]? =some v→RD w E c v)→(∀(i:Nat) (c:DV) (v:Value),b[i]? =some c→vs[i]? =some v→RD w E c v)→
 (∀i,i<us.length→xs[k*kse.length+i]? =us[i]?)→(∀i,i<vs.length→ys[k*kse.length+i]? =vs[i]?)→
 (Op.eqItems (d+2) e kse.length xs ys (List.range' k m)).run P w=.ok c w
 |0,k,a,b,c,us,vs,he,hk,_,_,_,_,_,_=>by
  have:a=[]:=by cases a<;>simp_all[bD]
  subst this
  have:b=[]:=List.eq_nil_of_length_eq_zero (CH he).symm
  subst this
  simp only[jI,Option.some.injEq]at he
  subst he
  simp[Op.eqItems]
 |m+1,k,a,b,c,us,vs,he,hk,hul,hvl,hup,hvp,hx,hy=>by
  rw[List.replicate_succ,List.flatten_cons]at hk
  obtain⟨k1,k2⟩:=wR hk
  obtain⟨p,q,e1,e2,rfl⟩:=CI kse.length he
  have hal:=Ae hk
  rw[List.length_append]at hal
  have hab:=CH he
  have hpart:∀(xs:Array Value) (us:List Value),us.length=a.length→(∀i,i<us.length→xs[k*kse.length+i]? =us[i]?)→(part e xs (k*kse.length)).run P w=.ok (.agg (us.take kse.length).toArray) w:=by
   intro xs us hl hx
   obtain⟨g2,fs,g3,_⟩:=hs
   have hco:P.cellsOf e=kse.length:=by rw[←hsz];simp[Program.cellsOf,hi]
   have hag:(isAgg e).run P w=.ok true w:=by simp[isAgg,run_underlying g3]
   have hso:(sizeOf e).run P w=.ok kse.length w:=by simp[sizeOf,typeInfo,run_program,hi,hsz]
   simp only[part,Sem.run_bind,hag,Result.andThen_ok,if_true,hso,Sem.run_pure]
   congr 2
   apply Array.ext_getElem?
   intro i
   rw[Array.getElem?_extract,show(us.take kse.length).toArray[i]? =(us.take kse.length)[i]? from by simp,List.getElem?_take]
   by_cases hiL:i<kse.length
   ·have h1:=hx i (by omega)
    have h2:k*kse.length+i<xs.size:=by
     rw[List.getElem?_eq_getElem (by omega)]at h1
     exact(Array.getElem?_eq_some_iff.1 h1).1
    rw[if_pos (by omega),if_pos hiL,h1]
   ·rw[if_neg (by omega),if_neg hiL]
  simp only[List.range'_succ,Op.eqItems,Sem.run_bind,hpart xs us hul hx,hpart ys vs (by omega) hy,Result.andThen_ok]
  have hst:=zI (w:=w) (E:=E) hs d (us:=us.take kse.length) (vs:=vs.take kse.length) e1 k1 (by simp[hul]) (by simp[hvl])
   (fun i c v hc hv=>hup i c v (by rw[List.getElem?_take]at hc;split at hc<;>simp_all) (by rw[List.getElem?_take]at hv;split at hv<;>simp_all))
   (fun i c v hc hv=>hvp i c v (by rw[List.getElem?_take]at hc;split at hc<;>simp_all) (by rw[List.getElem?_take]at hv;split at hv<;>simp_all))
  rw[hst]
  simp only[Result.andThen_ok]
  have hrec:=BE hi hsz hs d xs ys m (k+1) (a.drop kse.length) (b.drop kse.length) q (us.drop kse.length) (vs.drop kse.length) e2 k2 (by simp[hul]) (by simp[hvl])
   (fun i c v hc hv=>hup (kse.length+i) c v (by simpa using hc) (by simpa using hv)) (fun i c v hc hv=>hvp (kse.length+i) c v (by simpa using hc) (by simpa using hv))
   (fun i hi=>by simp at hi;rw[List.getElem?_drop,←hx _ (by omega)];congr 1;rw[Nat.add_mul];omega)
   (fun i hi=>by simp at hi;rw[List.getElem?_drop,←hy _ (by omega)];congr 1;rw[Nat.add_mul];omega)
  cases p
  ·simp
  ·simp only[Bool.not_true,Bool.false_eq_true,if_false,Bool.true_and]
   exact hrec
theorem If{t:TypeId}{ks:List TK}(h:JF P t ks)(d:Nat){a b:List DV}{c:Bool}{us vs:List Value}(he:jI a b=some c)(hk:bD ks a=true)(hul:us.length=a.length)(hvl:vs.length=b.length)
 (hup:∀(i:Nat) (c:DV) (v:Value),a[i]? =some c→us[i]? =some v→RD w E c v)(hvp:∀(i:Nat) (c:DV) (v:Value),b[i]? =some c→vs[i]? =some v→RD w E c v):
 (Op.equalIn (d+3) t (.agg us.toArray) (.agg vs.toArray)).run P w=.ok c w:=by
 obtain⟨n,e,inf,kse,hu,hi,hsz,hs,rfl⟩:=h
 have hco:P.cellsOf e=kse.length:=by rw[←hsz];simp[Program.cellsOf,hi]
 rw[run_equalIn_array w (d+2) _ _ hu hi,hco,List.range_eq_range']
 exact BE hi hsz hs d _ _ n 0 a b c us vs he hk hul hvl hup hvp (fun i _=>by simp) (fun i _=>by simp)
theorem CJ{t:TypeId}{ks:List TK}(h:uM P t ks∨JF P t ks){a b:List DV}{c:Bool}{us vs:List Value}(he:jI a b=some c)(hk:bD ks a=true)(hul:us.length=a.length)(hvl:vs.length=b.length)
 (hup:∀(i:Nat) (c:DV) (v:Value),a[i]? =some c→us[i]? =some v→RD w E c v)(hvp:∀(i:Nat) (c:DV) (v:Value),b[i]? =some c→vs[i]? =some v→RD w E c v):
 (Op.equalIn 10000 t (.agg us.toArray) (.agg vs.toArray)).run P w=.ok c w:=by
 rcases h with h|h
 ·exact zI h 9998 he hk hul hvl hup hvp
 ·exact If h 9997 he hk hul hvl hup hvp
theorem OP(hT:mA P T)(op:BinOp)(t:TypeId)(ox oy:Operand){x y:LV}{vx vy:Value}(hx:R w E β H x vx)(hy:R w E β H y vy)(hok:(dP (T t).eqk (T t).k.isBool op x y).ok)(ht:(T t).eqk≠[]→(T t).k.isNone=false):
 ∃v,((do eqGuard op t ox oy vx vy;binOp op t vx vy:Sem Value)).run P w=.ok v w∧(dP (T t).eqk (T t).k.isBool op x y).up=[]∧R w E β H (dP (T t).eqk (T t).k.isBool op x y).v v:=by
 have hok0:=hok
 unfold dP at hok
 split at hok
 ·rename_i k a k' b
  have:=hx.int;subst this
  have:=hy.int;subst this
  obtain⟨v,h1,h2,h3⟩:=OO (P:=P) (w:=w) (E:=E) (β:=β) (H:=H) op t (T t).eqk (T t).k.isBool hok0
  exact⟨v,by rw[Sem.run_bind,Eq];exact h1,h2,h3⟩
 ·rename_i a b
  have:=hx.str;subst this
  have:=hy.str;subst this
  simp only[Sem.run_bind,Kv,Result.andThen_ok]
  unfold dP
  cases op with
 |add=>
  simp only[oZ.cond]at hok⊢
  refine⟨_,?_,by trivial,Ac _⟩
  have:=run_string_add_sum (P:=P) (w:=w) ⟨a.toArray⟩ ⟨b.toArray⟩ (by simpa [ByteArray.size]using hok)
  simp only[binOp]
  rw[this]
  congr 2
 |lss=>
  simp only[oZ.plain]at hok⊢
  exact⟨_,by simp[binOp,Op.stringOp,ByteArray.toList_eq],by trivial,dM _⟩
 |leq=>
  simp only[oZ.plain]at hok⊢
  exact⟨_,by simp[binOp,Op.stringOp,ByteArray.toList_eq],by trivial,dM _⟩
 |gtr=>
  simp only[oZ.plain]at hok⊢
  exact⟨_,by simp[binOp,Op.stringOp,ByteArray.toList_eq],by trivial,dM _⟩
 |geq=>
  simp only[oZ.plain]at hok⊢
  exact⟨_,by simp[binOp,Op.stringOp,ByteArray.toList_eq],by trivial,dM _⟩
 |eql=>
  simp only[oZ.plain]at hok⊢
  exact⟨_,by simp[binOp,Op.stringOp,ByteArray.toList_eq],by trivial,dM _⟩
 |neq=>
  simp only[oZ.plain]at hok⊢
  exact⟨_,by simp[binOp,Op.stringOp,ByteArray.toList_eq],by trivial,dM _⟩
 |sub|mul|quo|rem|and|or|xor|andNot|shl|shr=>exact hok.elim
 ·rename_i a b
  unfold dP
  cases op with
 |eql=>
  simp only at hok⊢
  cases e:jI a b with
  |none=>rw[e]at hok;exact hok.elim
  |some c=>
   rw[e]at hok
   simp only[oZ.cond]at hok⊢
   obtain⟨hk,hne⟩:=hok
   have hek:(T t).eqk≠[]:=by intro h;rw[h]at hk;cases a<;>simp_all[bD]
   obtain⟨g1,g2⟩:=(hT t (ht hek)).eqk hek
   cases hx with
  |d _ _ hx=>cases hx with
   |agg _ us hul _ hup=>cases hy with
    |d _ _ hy=>cases hy with
     |agg _ vs hvl _ hvp=>
       have hrun:=CJ (w:=w) (E:=E) g2 e hk hul hvl hup hvp
       refine⟨_,?_,by trivial,dM _⟩
       rw[Sem.run_bind,run_eqGuard_agg w _ t ox oy _ _ g1]
       simp only[Result.andThen_ok]
       rw[run_eql_struct,hrun]
       rfl
 |neq=>
  simp only at hok⊢
  cases e:jI a b with
  |none=>rw[e]at hok;exact hok.elim
  |some c=>
   rw[e]at hok
   simp only[oZ.cond]at hok⊢
   obtain⟨hk,hne⟩:=hok
   have hek:(T t).eqk≠[]:=by intro h;rw[h]at hk;cases a<;>simp_all[bD]
   obtain⟨g1,g2⟩:=(hT t (ht hek)).eqk hek
   cases hx with
  |d _ _ hx=>cases hx with
   |agg _ us hul _ hup=>cases hy with
    |d _ _ hy=>cases hy with
     |agg _ vs hvl _ hvp=>
       have hrun:=CJ (w:=w) (E:=E) g2 e hk hul hvl hup hvp
       refine⟨_,?_,by trivial,dM _⟩
       rw[Sem.run_bind,run_eqGuard_agg w _ t ox oy _ _ g1]
       simp only[Result.andThen_ok]
       rw[run_neq_struct,hrun]
       rfl
 |add|sub|mul|quo|rem|and|or|xor|andNot|shl|shr|lss|leq|gtr|geq=>exact hok.elim
 ·rename_i a b
  have:=hx.bool;subst this
  have:=hy.bool;subst this
  simp only[Sem.run_bind,Ie,Result.andThen_ok]
  unfold dP
  have hbt:(T t).k.isBool=true→P.underlying t=some .bool:=fun h=>by
   obtain⟨inf,d,z,h1,h2,h3,_⟩:=hT.parts (t:=t) (by cases e:(T t).k<;>simp_all[TK.isBool,TK.isNone])
   cases e:(T t).k<;>simp_all[TK.isBool]
   cases d<;>simp_all[uL]
  cases op with
  |eql=>
   simp only[oZ.cond]at hok⊢
   exact⟨_,by simp[binOp,Op.equal,Op.maxDepth,run_equalIn_bool' w 9999 t a b (hbt hok)],by trivial,dM _⟩
  |neq=>
   simp only[oZ.cond]at hok⊢
   exact⟨_,by simp[binOp,Op.equal,Op.maxDepth,run_equalIn_bool' w 9999 t a b (hbt hok)],by trivial,dM _⟩
  |add|sub|mul|quo|rem|and|or|xor|andNot|shl|shr|lss|leq|gtr|geq=>exact hok.elim
 ·exact hok.elim
theorem Qn(hT:mA P T)(m:fX w0 X H β w)(hg:∀x,R w (Ex X β H) β H (g x) (a.eval x)){op:BinOp}{t u:TypeId}{x y:Operand}(ho:o.op=.binOp op t x y u)
 (hok:(dP (T t).eqk (T t).k.isBool op (g x) (g y)).ok)(ht:(T t).eqk≠[]→(T t).k.isNone=false):pP P w0 X H β w a o (dP (T t).eqk (T t).k.isBool op (g x) (g y)):=by
 obtain⟨v,h1,h2,h3⟩:=OP hT op t x y (hg x) (hg y) hok ht
 refine bQ (v:=v) (w':=w) (β':=β) ?_ (by rw[h2];exact m) (by rw[h2];exact lF.refl) (by rw[h2];exact h3)
 unfold execOp
 simp only[ho]
 rw[Sem.run_bind,h1]
 rfl
theorem Ig(d:Nat){t e:TypeId}(p:Option Addr)(h:P.underlying t=some (.pointer e)):(Op.equalIn (d+1) t (.pointer p) (.pointer none)).run P w=.ok p.isNone w:=by
 cases p<;>simp[Op.equalIn,run_underlying h]
theorem Qo(hT:mA P T)(m:fX w0 X H β w)(hg:∀x,R w (Ex X β H) β H (g x) (a.eval x)){op:BinOp}{t u:TypeId}{x y:Operand}(ho:o.op=.binOp op t x y u)
 (hp:(T t).k.isPtr=true)(hok:(gZ op (g x) (g y)).ok):pP P w0 X H β w a o (gZ op (g x) (g y)):=by
 obtain⟨e,hu⟩:∃e,P.underlying t=some (.pointer e):=by
  obtain⟨inf,d,z,h1,h2,h3,_⟩:=hT.parts (t:=t) (by cases q:(T t).k<;>simp_all[TK.isPtr,TK.isNone])
  cases q:(T t).k<;>simp_all[TK.isPtr]
  cases d<;>simp_all[uL]
 have hx:=hg x
 have hy:=hg y
 generalize hvx:a.eval x=vx at hx
 generalize hvy:a.eval y=vy at hy
 generalize g x=lx at*
 generalize g y=ly at*
 have fin:∀(p:Option Addr),vx=.pointer p→vy=.pointer none→(execOp a.eval o).run P w=.ok (.value (.bool (if op=.eql then p.isNone else !p.isNone))) w:=fun p h1 h2=>by
  subst h1;subst h2
  cases op<;>simp_all[execOp,eqGuard,binOp,Op.equal,Op.maxDepth,Ig,gZ,oZ.fail]
 unfold gZ at*
 split at hok
 ·cases hx with|d _ _ hx=>cases hx with|ro _ b off us=>cases hy with|d _ _ hy=>cases hy with|val _ _=>exact pP.plain m (fin _ rfl rfl) (dM _)
 ·cases hx with|d _ _ hx=>cases hx with|ro _ b off us=>cases hy with|d _ _ hy=>cases hy with|val _ _=>exact pP.plain m (fin _ rfl rfl) (dM _)
 ·cases hx with|d _ _ hx=>cases hx with|val _ _=>cases hy with|d _ _ hy=>cases hy with|val _ _=>exact pP.plain m (fin _ rfl rfl) (dM _)
 ·cases hx with|d _ _ hx=>cases hx with|val _ _=>cases hy with|d _ _ hy=>cases hy with|val _ _=>exact pP.plain m (fin _ rfl rfl) (dM _)
 ·exact hok.elim
theorem Rn(m:fX w0 X H β w)(hg:∀x,R w (Ex X β H) β H (g x) (a.eval x)){op:UnOp}{t:TypeId}{x:Operand}(ho:o.op=.unOp op t x)
 (hok:(lW op (g x)).ok):pP P w0 X H β w a o (lW op (g x)):=by
 have hx:=hg x
 generalize g x=lx at*
 unfold lW at*
 split at hok
 ·have:=hx.bool
  exact pP.plain m (v:=.bool _) (by simp[execOp,ho,this,Op.unary]) (dM _)
 ·rename_i k n
  have:=hx.int
  exact pP.plain m (v:=.int k _) (by simp only[execOp,ho,this,Op.unary];rfl) (cI _ _)
 ·rename_i k n
  have:=hx.int
  by_cases h64:k=.i64
  ·subst h64
   simp only[if_true,oZ.cond]at hok⊢
   exact pP.plain m (v:=.int .i64 (0-n)) (by simp only[execOp,ho,this,Op.unary,Op.intArith,IntWalk.i64_in _ hok];rfl) (cI _ _)
  ·simp only[if_neg h64,oZ.plain]at hok⊢
   exact pP.plain m (v:=.int k (k.wrap (0-n))) (by simp only[execOp,ho,this,Op.unary,Op.intArith];rfl) (cI _ _)
 ·exact hok.elim
theorem R.bools{x:LV}{v:Value}(hx:R w E β H x v)(he:Ee x=true):v=.bool (tP x):=by
 unfold Ee at he
 split at he
 ·cases hx with|when _ _ _ h _=>exact(h he).bool
 ·exact hx.bool
 ·cases he
theorem CK(m:fX w0 X H β w){c x y:Operand}{lc lx ly:LV}(hc:R w (Ex X β H) β H lc (a.eval c))(hx:R w (Ex X β H) β H lx (a.eval x))(hy:R w (Ex X β H) β H ly (a.eval y))(ho:o.op=.pick c x y)
 (hok:(eJ lc lx ly).ok):pP P w0 X H β w a o (eJ lc lx ly):=by
 unfold eJ at*
 split at hok
 ·rename_i p
  have hcv:=hc.bool
  simp only[oZ.cond]at hok⊢
  cases p
  ·have:=hy.bools (hok.2 rfl)
   exact pP.plain m (v:=.bool (tP ly)) (by simp[execOp,ho,hcv,this,asBool]) (dM _)
  ·have:=hx.bools (hok.1 rfl)
   exact pP.plain m (v:=.bool (tP lx)) (by simp[execOp,ho,hcv,this,asBool]) (dM _)
 ·exact hok.elim
theorem OQ(m:fX w0 X H β w)(hg:∀x,R w (Ex X β H) β H (g x) (a.eval x)){c x y:Operand}(ho:o.op=.pick c x y)
 (hok:(eJ (g c) (g x) (g y)).ok):pP P w0 X H β w a o (eJ (g c) (g x) (g y)):=CK m (hg c) (hg x) (hg y) ho hok
theorem aQ(H:Nat→aX)(d:Nat)(x:aX):bG H [(d,x)]=cN H d x:=by funext j;simp[bG,cN]
theorem mD(H:Nat→aX)(d:Nat)(x:aX)(l:List (Nat×aX)):bG H ((d,x)::l)=cN (bG H l) d x:=by funext j;simp[bG,cN]
theorem JH(m:fX w0 X H β w){d:Nat}(hd:H d=.absent){cs:List LV}{us:List Value}(hl:us.length=cs.length)(h1:∀u∈us,u.oneCell'=true)(h:∀(i:Nat) (c:LV) (v:Value),cs[i]? =some c→us[i]? =some v→R w (Ex X β H) β H c v)(e:TypeId):
 fX w0 X (cN H d (.box false cs)) (cN β d (some w.heap.size)) (w.alloc (.cells us.toArray e))∧lF X H β w (cN H d (.box false cs)) (cN β d (some w.heap.size)) (w.alloc (.cells us.toArray e)):=
 m.newObj ((En.refl _ _).alloc (Nat.le_refl _) _) hd (some w.heap.size) (fun b hb=>by injection hb with hb;subst hb;simp) fun _ hR=>by
  unfold fU
  rw[aJ]
  exact⟨w.heap.size,e,us,by rw[aJ],heap_alloc_new w _,hl,h1,fun i c v hc hv=>hR _ _ (h i c v hc hv)⟩
theorem JI(d b:Nat)(cs:List LV):R w E (cN β d (some b)) (cN H d (.box false cs)) (.bx d 0) (.pointer (some ⟨b,0,none⟩)):=
 .bx d 0 b false cs (by rw[aJ]) (by rw[aJ])
theorem Qp(m:fX w0 X H β w)(hg:∀x,R w (Ex X β H) β H (g x) (a.eval x)){t:TypeId}{x:Operand}(ho:o.op=.box t x){d:Nat}(hok:H d=.absent∧iA H (g x)=true):
 pP P w0 X H β w a o ⟨.bx d 0,H d=.absent∧iA H (g x)=true,[(d,.box false (fN (g x)))]⟩:=by
 obtain⟨h1,h2⟩:=(hg x).cells hok.2
 have:=JH m hok.1 h1 ((hg x).cells1 hok.2) h2 t
 refine bQ (v:=.pointer (some ⟨w.heap.size,0,none⟩)) (w':=w.alloc (.cells (a.eval x).cells.toList.toArray t)) (β':=cN β d (some w.heap.size)) ?_ ?_ ?_ ?_
 ·simp[execOp,ho,Instr.box,newVar,newRow]
 ·simp only[aQ];exact this.1
 ·simp only[aQ];exact this.2
 ·simp only[aQ];exact JI _ _ _
theorem Mq(hT:mA P T)(m:fX w0 X H β w){t:TypeId}(ho:o.op=.alloc t){d:Nat}(hok:H d=.absent∧(T t).k.isNone=false):
 pP P w0 X H β w a o ⟨.bx d 0,H d=.absent∧(T t).k.isNone=false,[(d,.box false ((T t).zero.map fY))]⟩:=by
 obtain⟨inf,dd,z,h1,h2,h3,h4,h5,h6,h7⟩:=hT.parts hok.2
 have:=JH m hok.1 (cs:=(T t).zero.map fY) (us:=z.cells.toList) (by simp[h7]) (fun u hu=>(hT t hok.2).one u (by rw[←h7];exact hu)) (fun i c v hc hv=>by
  rw[h7]at hv
  simp[hv]at hc
  subst hc;exact R.const v) t
 refine bQ (v:=.pointer (some ⟨w.heap.size,0,none⟩)) (w':=w.alloc (.cells z.cells.toList.toArray t)) (β':=cN β d (some w.heap.size)) ?_ ?_ ?_ ?_
 ·simp[execOp,ho,Instr.alloc,zeroValue,typeInfo,h1,h6,newVar,newRow]
 ·simp only[aQ];exact this.1
 ·simp only[aQ];exact this.2
 ·simp only[aQ];exact JI _ _ _
end
end Go.Eng
namespace Go.Eng
open Go.RowKit
section
variable{P:Program} {T:TypeId→lA} {w0:iU} {X:Nat→Prop} {H:Nat→aX} {β:Nat→Option Nat} {w:World} {a:Act} {o:Oper} {g:Operand→LV} {E:Nat→Prop}
theorem Qq{d:TypeDesc}{k:TK}(h:uL d k):(match d with| .struct _| .array _ _=>true|_=>false)=k.agg:=by cases d<;>cases k<;>first|rfl|exact False.elim h
theorem Er(hT:mA P T){t:TypeId}(h:(T t).k.isNone=false):(isAgg t).run P w=.ok (T t).k.agg w:=by
 obtain⟨inf,d,z,h1,h2,h3,_⟩:=hT.parts h
 have:=Qq h3
 rw[←this]
 cases d<;>simp[isAgg,run_underlying h2]
theorem cQ(hT:mA P T){t:TypeId}(h:(T t).k.isNone=false):(sizeOf t).run P w=.ok (T t).size w:=by
 obtain⟨inf,d,z,h1,h2,h3,h4,_⟩:=hT.parts h
 simp[sizeOf,typeInfo,h1,h4]
theorem BF(hT:mA P T){t:TypeId}(h:(T t).k.isNone=false){b off:Nat}{us:List Value}(hl:us.length=(T t).size)(hs:(T t).k.agg=false→(T t).size=1)
 (hc:∀(j:Nat) (u:Value),us[j]? =some u→w.cell? ⟨b,off+j,none⟩=some u):
 (loadVar t ⟨b,off,none⟩).run P w=.ok (if(T t).k.agg then .agg us.toArray else us.getD 0 undef) w:=by
 unfold loadVar
 rw[Sem.run_bind,Er hT h]
 simp only[Result.andThen_ok]
 cases e:(T t).k.agg
 ·simp only[Bool.false_eq_true,if_false]
  match us,hl.trans (hs e)with
  |[u],_=>
   have:=hc 0 u rfl
   simp only[Nat.add_zero]at this
   simp[this]
 ·simp only[if_true,Sem.run_bind,cQ hT h,Result.andThen_ok]
  rw[←hl,run_loadCells_list (P:=P) (w:=w) ⟨b,off,none⟩ us (fun j v hv=>by rw[Addr.add_lit];exact hc j v hv)]
  rfl
theorem Cy{E:Nat→Prop}{cs:List DV}{us:List Value}{agg:Bool}{s off:Nat}(hul:cs.length≤us.length)(h1:∀{i:Nat} (u:Value),us[i]? =some u→i<cs.length→u.oneCell'=true)(hle:off+s≤cs.length)(hs:agg=false→s=1)
 (h:∀(i:Nat) (c:DV) (v:Value),cs[i]? =some c→us[i]? =some v→RD w E c v):
 RD w E (nH agg s off cs) (if agg then .agg ((us.drop off).take s).toArray else((us.drop off).take s).getD 0 undef):=by
 unfold nH
 cases agg
 ·simp only[Bool.false_eq_true,if_false]
  have hs1:=hs rfl
  subst hs1
  have h1:off<cs.length:=by omega
  have h2:off<us.length:=by omega
  refine h off _ _ (by rw[List.getD_eq_getElem?_getD,List.getElem?_eq_getElem h1];rfl) ?_
  simp[List.getD_eq_getElem?_getD,List.getElem?_drop,h2]
 ·simp only[if_true]
  refine .agg _ _ (by simp;omega) (fun u hu=>?_) fun i c v hc hv=>?_
  ·obtain⟨i,hi,rfl⟩:=List.getElem_of_mem hu
   simp at hi
   simp only[List.getElem_take,List.getElem_drop]
   exact h1 _ (List.getElem?_eq_getElem _) (by omega)
  rw[List.getElem?_take]at hc hv
  split at hc
  ·rename_i hi
   rw[if_pos hi]at hv
   rw[List.getElem?_drop]at hc hv
   exact h _ c v hc hv
  ·cases hc
theorem FA{cs:List LV}{us:List Value}{agg:Bool}{s off:Nat}(hul:cs.length=us.length)(h1:∀u∈us,u.oneCell'=true)(hle:off+s≤cs.length)(hs:agg=false→s=1)
 (h:∀(i:Nat) (c:LV) (v:Value),cs[i]? =some c→us[i]? =some v→R w E β H c v):
 R w E β H (oK agg s off cs) (if agg then .agg ((us.drop off).take s).toArray else((us.drop off).take s).getD 0 undef):=by
 unfold oK
 cases agg
 ·simp only[Bool.false_eq_true,if_false]
  have hs1:=hs rfl
  subst hs1
  have h1:off<cs.length:=by omega
  have h2:off<us.length:=by omega
  refine h off _ _ (by rw[List.getD_eq_getElem?_getD,List.getElem?_eq_getElem h1];rfl) ?_
  simp[List.getD_eq_getElem?_getD,List.getElem?_drop,h2]
 ·simp only[if_true]
  refine R.mkAgg (by simp;omega) (fun u hu=>h1 u (List.mem_of_mem_drop (List.mem_of_mem_take hu))) fun i c v hc hv=>?_
  rw[List.getElem?_take]at hc hv
  split at hc
  ·rename_i hi
   rw[if_pos hi]at hv
   rw[List.getElem?_drop]at hc hv
   exact h _ c v hc hv
  ·cases hc
theorem uN{s:Nat}{xs:List DV}{k:Nat}(hk:k<xs.length)(hs:∀x∈xs,(aE x).length=s):(aE (xs.getD k default)).length=s∧∀j,j<s→(bO xs)[k*s+j]? =(aE (xs.getD k default))[j]? :=by
 have e:xs.getD k default=xs[k]:=by simp[List.getD_eq_getElem?_getD,hk]
 refine⟨by rw[e];exact hs _ (List.getElem_mem hk),fun j hj=>?_⟩
 rw[Gp hs k j hj,e,List.getElem?_eq_getElem hk]
 rfl
theorem OR(hT:mA P T)(m:fX w0 X H β w)(hg:∀x,R w (Ex X β H) β H (g x) (a.eval x)){t:TypeId}{x:Operand}(ho:o.op=.load t x)(ht:(T t).k.isNone=false)
 (hok:(eK H (T t) (g x)).ok):pP P w0 X H β w a o (eK H (T t) (g x)):=by
 have hx:=hg x
 generalize g x=lx at*
 generalize hval:a.eval x=vx at hx
 unfold eK at*
 have fin:∀(b off:Nat) (us:List Value),vx=.pointer (some ⟨b,off,none⟩)→us.length=(T t).size→((T t).k.agg=false→(T t).size=1)→
  (∀(j:Nat) (u:Value),us[j]? =some u→w.cell? ⟨b,off+j,none⟩=some u)→(execOp a.eval o).run P w=.ok (.value (if(T t).k.agg then .agg us.toArray else us.getD 0 undef)) w:=by
  intro b off us hv hl hs hc
  have:=BF (P:=P) (w:=w) hT ht hl hs hc
  have hv':=hval.trans hv
  simp only[execOp,ho,Instr.loadAt,Instr.sureAddr,hv',Sem.run_bind,Sem.run_pure,Result.andThen_ok,this]
 split at hok
 ·rename_i id off
  split at hok
  ·rename_i fz cs hH
   simp only[oZ.cond]at hok⊢
   have hob:=m.obj id
   simp only[fU,hH]at hob
   obtain⟨b,e,us,hb,hblk,hlen,h1,hp⟩:=hob
   cases hx with
   |bx _ _ b' _ _ _ hb'=>
    rw[hb]at hb';injection hb' with hb';subst hb'
    refine pP.plain m (fin b off ((us.drop off).take (T t).size) rfl (by simp;omega) hok.2 (fun j u hu=>?_)) (FA hlen.symm h1 hok.1 hok.2 hp)
    rw[cell_of_row w b _ us.toArray e (0,0) hblk]
    rw[List.getElem?_take]at hu
    split at hu
    ·simpa using hu
    ·cases hu
   |bxdead _ _ _ hd=>rw[hH]at hd;cases hd
  ·exact hok.elim
 ·rename_i cs
  simp only[oZ.cond]at hok⊢
  cases hx with
  |d _ _ hx=>cases hx with
   |ro _ b off us hnb hul h1 hlt hcell hp=>
    refine pP.plain m (fin b off ((us.drop 0).take (T t).size) rfl (by simp;omega) hok.2 (fun j u hu=>?_)) (.d _ _ (Cy (by omega) (fun u hu _=>h1 u (List.mem_of_getElem? hu)) (by omega) hok.2 hp))
    rw[List.getElem?_take]at hu
    split at hu
    ·exact hcell j u (by simpa using hu)
    ·cases hu
 ·rename_i id k j
  split at hok
  ·rename_i fz s xs hH
   simp only[oZ.cond]at hok⊢
   obtain⟨hk,hj,hs⟩:=hok
   have hob:=m.obj id
   simp only[fU,hH]at hob
   obtain⟨hpos,hall,hob⟩:=hob
   obtain⟨hcl,hcc⟩:=uN hk hall
   cases hx with
   |rp _ _ _ b' _ _ _ hH' hb'=>
    rw[hH]at hH';injection hH' with _ e1 e2;subst e1;subst e2
    rcases hob with⟨hn,_⟩|⟨b,e,cur,hb,hblk,hlen,hp⟩
    ·rw[hn]at hb';cases hb'
    ·rw[hb]at hb';injection hb' with hb';subst hb'
     have hks:k*s+s≤xs.length*s:=by have:(k+1)*s≤xs.length*s:=Nat.mul_le_mul_right _ hk;rw[Nat.add_mul,Nat.one_mul]at this;exact this
     have hcs:cur.size=cur.toList.length:=by simp
     refine pP.plain m (fin b (k*s+j) (((cur.toList.drop (k*s)).drop j).take (T t).size) rfl (by simp;omega) hs (fun i u hu=>?_))
      (.d _ _ (Cy (us:=cur.toList.drop (k*s)) (by rw[hcl,List.length_drop];omega) (fun{i} u hu hi=>?_) hj hs fun i c v hc hv=>?_))
     ·rw[cell_of_row w b _ cur e (0,0) hblk]
      rw[List.getElem?_take]at hu
      split at hu
      ·simpa [Nat.add_assoc]using hu
      ·cases hu
     ·rw[hcl]at hi
      rw[List.getElem?_drop]at hu
      exact(hp _ _ u (by rw[hcc i hi];exact List.getElem?_eq_getElem (by omega)) (by simpa using hu)).1
     ·have hi:i<s:=by have:=(List.getElem?_eq_some_iff.1 hc).1;omega
      rw[List.getElem?_drop]at hv
      exact(hp _ c v (by rw[hcc i hi];exact hc) (by simpa using hv)).2
   |rpdead _ _ _ _ hd=>rw[hH]at hd;cases hd
  ·exact hok.elim
 ·exact hok.elim
theorem Af(hT:mA P T){t:TypeId}(h:(T t).k.isNone=false){b off:Nat}{v:Value}(hl:v.cells.toList.length=(T t).size)(h1:∀u∈v.cells.toList,u.oneCell'=true)
 {cur:Array Value}{e:TypeId}(hblk:w.heap[b]? =some (.cells cur e (0,0)))(hfit:off+v.cells.toList.length≤cur.size):
 (storeVar t ⟨b,off,none⟩ v).run P w=.ok () (w.setRow b (cU off cur.toList v.cells.toList).toArray):=by
 unfold storeVar
 rw[Sem.run_bind,cQ hT h]
 have hl':v.cells.size=(T t).size:=by simpa using hl
 simp only[Result.andThen_ok,hl',ne_eq,not_true_eq_false,if_false]
 have:=run_storeCells_at P b off e v.cells.toList 0 cur w hblk (by simpa using hfit) h1
 simpa [cU]using this
theorem lM{α:Type}{off:Nat}{cs new:List α}(h:off+new.length≤cs.length):(cU off cs new).length=cs.length:=by simp[cU];omega
theorem mV{α:Type}{off:Nat}{cs new:List α}(h:off+new.length≤cs.length)(i:Nat):(cU off cs new)[i]? =if i<off then cs[i]? else if i<off+new.length then new[i-off]? else cs[i]? :=by
 unfold cU
 have hl:(cs.take off).length=off:=by simp;omega
 by_cases h1:i<off
 ·rw[if_pos h1,List.append_assoc,List.getElem?_append_left (by omega),List.getElem?_take,if_pos h1]
 ·rw[if_neg h1]
  by_cases h2:i<off+new.length
  ·rw[if_pos h2,List.getElem?_append_left (by simp;omega),List.getElem?_append_right (by omega),hl]
  ·rw[if_neg h2,List.getElem?_append_right (by simp;omega),List.getElem?_drop]
   congr 1
   simp;omega
theorem CL{α:Type}{off:Nat}{cs new:List α}{p:α→Prop}(h1:∀x∈cs,p x)(h2:∀x∈new,p x):∀x∈cU off cs new,p x:=by
 intro x hx
 simp only[cU,List.mem_append]at hx
 rcases hx with(hx|hx)|hx
 ·exact h1 x (List.mem_of_mem_take hx)
 ·exact h2 x hx
 ·exact h1 x (List.mem_of_mem_drop hx)
theorem Gr{α γ:Type}{off:Nat}{cs new:List α}{us vs:List γ}{p:α→γ→Prop}(hl:us.length=cs.length)(hn:vs.length=new.length)(hf:off+new.length≤cs.length)
 (h1:∀(i:Nat) c u,cs[i]? =some c→us[i]? =some u→p c u)(h2:∀(i:Nat) c u,new[i]? =some c→vs[i]? =some u→p c u):
 ∀(i:Nat) c u,(cU off cs new)[i]? =some c→(cU off us vs)[i]? =some u→p c u:=by
 intro i c u hc hu
 rw[mV hf]at hc
 rw[mV (by omega),hn]at hu
 split at hc
 ·rename_i h;rw[if_pos h]at hu;exact h1 i c u hc hu
 ·rename_i h
  rw[if_neg h]at hu
  split at hc
  ·rename_i h';rw[if_pos h']at hu;exact h2 _ c u hc hu
  ·rename_i h';rw[if_neg h']at hu;exact h1 i c u hc hu
theorem tT{r:oZ}{w':World}{β':Nat→Option Nat}(hr:(execOp a.eval o).run P w=.ok .skip w')(m:fX w0 X (bG H r.up) β' w')(gg:lF X H β w (bG H r.up) β' w')
 (hv:r.v=.junk):pP P w0 X H β w a o r:=by
 intro K Q hK
 unfold Oper.wp
 rw[hr]
 exact hK undef w' β' m gg (by rw[hv];exact .junk _)
theorem Gs(hT:mA P T)(m:fX w0 X H β w)(hg:∀x,R w (Ex X β H) β H (g x) (a.eval x)){t:TypeId}{x y:Operand}(ho:o.op=.store t x y)(ht:(T t).k.isNone=false)
 {id off:Nat}(hx:g x=.bx id off){cs:List LV}(hH:H id=.box false cs){c:Prop}(hok:off+(T t).size≤cs.length∧(fN (g y)).length=(T t).size∧iA H (g y)=true):
 pP P w0 X H β w a o ⟨.junk,c,[(id,.box false (cU off cs (fN (g y))))]⟩:=by
 have hxv:=hg x
 rw[hx]at hxv
 generalize hval:a.eval x=vx at hxv
 obtain⟨hk1,hk2,hk3⟩:=hok
 obtain⟨hc1,hc2⟩:=(hg y).cells hk3
 have hc3:=(hg y).cells1 hk3
 have hob:=m.obj id
 simp only[fU,hH]at hob
 obtain⟨b,e,us,hb,hblk,hlen,h1,hp⟩:=hob
 cases hxv with
 |bxdead _ _ _ hd=>rw[hH]at hd;cases hd
 |bx _ _ b' _ _ _ hb'=>
  rw[hb]at hb';injection hb' with hb';subst hb'
  have hrun:=Af (P:=P) (w:=w) hT ht (b:=b) (off:=off) (v:=a.eval y) (by omega) hc3 hblk (by rw[List.size_toArray];omega)
  have hfit:off+(fN (g y)).length≤cs.length:=by omega
  have:=m.rewrite (id:=id) (b:=b) (o':=.box false (cU off cs (fN (g y)))) (cur':=(cU off us (a.eval y).cells.toList).toArray) (by rw[hH];rfl) hb hblk
   (by simp only[List.size_toArray];exact lM (by omega)) (.inl ⟨_,_,hH,rfl⟩) (fun _ hR=>by
     unfold fU
     rw[aJ]
     refine⟨b,e,_,hb,setRow_heap w b _ _ e (0,0) hblk,by rw[lM (by omega),lM hfit];exact hlen,CL h1 hc3,?_⟩
     exact Gr hlen hc1 hfit (fun i c v hc hv=>hR _ _ (hp i c v hc hv)) (fun i c v hc hv=>hR _ _ (hc2 i c v hc hv)))
  refine tT (w':=w.setRow b (cU off us (a.eval y).cells.toList).toArray) (β':=β) ?_ (by simp only[aQ];exact this.1) (by simp only[aQ];exact this.2) rfl
  simp only[execOp,ho,Instr.storeAt,Instr.sureAddr,hval,Sem.run_bind,Sem.run_pure,Result.andThen_ok,hrun]
theorem Mr{s:Nat}{xs:List DV}(hs:∀x∈xs,(aE x).length=s){k:Nat}(hk:k<xs.length){z:DV}(hz:(aE z).length=s):bO (xs.set k z)=cU (k*s) (bO xs) (aE z):=by
 induction xs generalizing k with
 |nil=>simp at hk
 |cons x t ih=>
  have hx:=hs x (by simp)
  cases k with
  |zero=>simp[bO,cU,hz,←hx]
  |succ k=>
   have:=ih (fun y hy=>hs y (by simp[hy])) (k:=k) (by simpa using hk)
   simp only[List.set_cons_succ,bO,List.flatMap_cons]at*
   rw[this]
   unfold cU
   have e1:(k+1)*s=(aE x).length+k*s:=by rw[hx,Nat.add_mul];omega
   rw[e1,List.take_length_add_append,Nat.add_assoc,List.drop_length_add_append]
   simp
theorem sP:∀(n:Nat) (l:LV) (x:DV),close H n l=some x→∀id∈bL H n l,(H id).live=true:=by
 intro n
 induction n with
 |zero=>intro l x h;simp[close]at h
 |succ n ih=>
  intro l x h id hid
  have list:∀(cs:List LV) (xs:List DV),bX (cs.map (close H n))=some xs→id∈cs.flatMap (bL H n)→(H id).live=true:=by
   intro cs xs h hid
   obtain⟨h1,h2⟩:=pJ h
   obtain⟨c,hc,hid⟩:=List.mem_flatMap.1 hid
   obtain⟨i,hi,rfl⟩:=List.getElem_of_mem hc
   exact ih _ _ (h2 i _ (xs[i]'(by omega)) (List.getElem?_eq_getElem hi) (List.getElem?_eq_getElem (by omega))) id hid
  cases l with
  |agg cs=>
   simp only[close,Option.map_eq_some_iff]at h
   obtain⟨xs,h,_⟩:=h
   exact list cs xs h (by simpa [bL]using hid)
  |fn f cs=>
   simp only[close,Option.map_eq_some_iff]at h
   obtain⟨xs,h,_⟩:=h
   exact list cs xs h (by simpa [bL]using hid)
  |bm f cs=>
   simp only[close,Option.map_eq_some_iff]at h
   obtain⟨xs,h,_⟩:=h
   exact list cs xs h (by simpa [bL]using hid)
  |ow i k m=>
   simp[bL]at hid;subst hid
   simp only[close]at h
   cases hH:H id<;>simp_all[aX.live]
  |oc i k m c=>
   simp[bL]at hid;subst hid
   simp only[close]at h
   cases hH:H id<;>simp_all[aX.live]
  |mp i=>
   simp[bL]at hid;subst hid
   simp only[close]at h
   cases hH:H id<;>simp_all[aX.live]
  |bx i off=>
   simp only[close]at h
   simp only[bL]at hid
   cases hH:H i with
   |box fz cs=>
    simp only[hH,Option.map_eq_some_iff]at h
    obtain⟨xs,h,_⟩:=h
    simp only[hH,List.mem_cons]at hid
    rcases hid with rfl|hid
    ·rw[hH];rfl
    ·exact list _ xs h hid
   |_=>simp[hH]at hid
  |_=>simp[bL]at hid
theorem lN(m:fX w0 X H β w){ids:List Nat}{l:LV}{x:DV}{v:Value}(h:close H 8 l=some x)(hsub:∀id∈bL H 8 l,id∈ids)(hr:R w (Ex X β H) β H l v):
 RD w (Ex X β (bG H (aP H ids))) x v:=by
 refine tS m.obj (fun _ _=>(m.freeze ids).2.D) 8 l x v h (fun id hid b hb he=>?_) hr
 have hl:=sP 8 l x h id hid
 have hf:=m.fresh id b hl hb
 rcases he with he|⟨i,h1,h2⟩
 ·rcases hf.1 with h1|h1
  ·have:=(m.xold.1 b he).1;omega
  ·exact(m.xold.1 b he).2 h1.1
 ·have h3:(H i).live=true:=by
   have:=cY h1
   rw[jG]at this
   split at this
   ·rwa[BD]at this
   ·exact this
  have:=m.inj i id b h3 hl h2 hb
  subst this
  rw[jG,if_pos (hsub i hid),CG]at h1
  cases h1
theorem BG(hT:mA P T)(m:fX w0 X H β w)(hg:∀x,R w (Ex X β H) β H (g x) (a.eval x)){t:TypeId}{x y:Operand}(ho:o.op=.store t x y)(ht:(T t).k.isNone=false)
 {id k j:Nat}(hx:g x=.rp id k j){s:Nat}{xs:List DV}(hH:H id=.row false s xs){z:DV}(hz:close H 8 (g y)=some z){c:Prop}(hid:id∉bL H 8 (g y))(hk:k<xs.length)(hjs:j+(T t).size≤s)
 (hzl:(aE z).length=(T t).size){z':DV}(hz':(aE z').length=s)(hcells:aE z'=cU j (aE (xs.getD k default)) (aE z)):
 pP P w0 X H β w a o ⟨.junk,c,(id,.row false s (xs.set k z'))::aP H (bL H 8 (g y))⟩:=by
 have hxv:=hg x
 rw[hx]at hxv
 generalize hval:a.eval x=vx at hxv
 have hH':bG H (aP H (bL H 8 (g y))) id=.row false s xs:=by rw[jG,if_neg hid];exact hH
 obtain⟨m1,g1⟩:=m.freeze (bL H 8 (g y))
 have hyR:=lN m hz (fun _ h=>h) (hg y)
 obtain⟨hc1,hc2⟩:=hyR.cells
 have hc3:=hyR.cells1
 have hob:=m1.obj id
 simp only[fU,hH']at hob
 obtain⟨hpos,hall,hob⟩:=hob
 cases hxv with
 |rpdead _ _ _ _ hd=>rw[hH]at hd;cases hd
 |rp _ _ _ b' _ _ _ hH2 hb'=>
  rw[hH]at hH2;injection hH2 with _ e1 e2;subst e1;subst e2
  rcases hob with⟨hn,_⟩|⟨b,e,cur,hb,hblk,hlen,hp⟩
  ·rw[hn]at hb';cases hb'
  ·rw[hb]at hb';injection hb' with hb';subst hb'
   have hks:k*s+s≤xs.length*s:=by have:(k+1)*s≤xs.length*s:=Nat.mul_le_mul_right _ hk;rw[Nat.add_mul,Nat.one_mul]at this;exact this
   have hrun:=Af (P:=P) (w:=w) hT ht (b:=b) (off:=k*s+j) (v:=a.eval y) (by omega) hc3 hblk (by omega)
   obtain⟨hcl,hcc⟩:=uN hk hall
   have hset:bO (xs.set k z')=cU (k*s+j) (bO xs) (aE z):=by
    have hfl:=gA hall
    rw[Mr hall hk hz',hcells]
    apply List.ext_getElem?
    intro i
    have hpl:(cU j (aE (xs.getD k default)) (aE z)).length=s:=by rw[lM (by omega)];exact hcl
    have q1:=mV (off:=k*s) (cs:=bO xs) (new:=cU j (aE (xs.getD k default)) (aE z)) (by omega) i
    have q2:=mV (off:=k*s+j) (cs:=bO xs) (new:=aE z) (by omega) i
    rw[q1,q2,hpl]
    by_cases h1:i<k*s
    ·rw[if_pos h1,if_pos (by omega)]
    ·rw[if_neg h1]
     by_cases h2:i<k*s+s
     ·rw[if_pos (by omega),mV (by omega)]
      by_cases h3:i<k*s+j
      ·rw[if_pos (by omega),if_pos h3,←hcc (i-k*s) (by omega)]
       congr 1;omega
      ·rw[if_neg (by omega),if_neg h3]
       by_cases h4:i<k*s+j+(aE z).length
       ·rw[if_pos (by omega),if_pos h4]
        congr 1;omega
       ·rw[if_neg (by omega),if_neg h4,←hcc (i-k*s) (by omega)]
        congr 1;omega
     ·rw[if_neg (by omega),if_neg (by omega),if_neg (by omega)]
   have hcs:cur.toList.length=cur.size:=by simp
   have hpl:(cU (k*s+j) cur.toList (a.eval y).cells.toList).length=cur.size:=by rw[lM (by omega)];exact hcs
   have hps:(cU (k*s+j) cur.toList (a.eval y).cells.toList).toArray.size=cur.size:=hpl
   have:=m1.rewrite (id:=id) (b:=b) (o':=.row false s (xs.set k z')) (cur':=(cU (k*s+j) cur.toList (a.eval y).cells.toList).toArray) (by rw[hH'];rfl) hb hblk
    hps (.inr ⟨s,xs,_,hH',rfl,by simp⟩) (fun hD _=>by
     unfold fU
     rw[aJ]
     refine⟨hpos,fun q hq=>?_,.inr ⟨b,e,_,hb,setRow_heap w b _ _ e (0,0) hblk,by rw[hps];simpa using hlen,?_⟩⟩
     ·rcases List.mem_or_eq_of_mem_set hq with hq|rfl
      ·exact hall q hq
      ·exact hz'
     ·rw[hset]
      intro i d v hd hv
      have hfl:=gA hall
      rw[mV (by omega)]at hd
      simp only[List.getElem?_toArray]at hv
      rw[mV (by omega),hc1]at hv
      split at hd
      ·rename_i h;rw[if_pos h]at hv;have:=hp i d v hd (by simpa using hv);exact⟨this.1,hD _ _ this.2⟩
      ·rename_i h
       rw[if_neg h]at hv
       split at hd
       ·rename_i h';rw[if_pos h']at hv;exact⟨hc3 v (List.mem_of_getElem? hv),hD _ _ (hc2 _ d v hd hv)⟩
       ·rename_i h';rw[if_neg h']at hv;have:=hp i d v hd (by simpa using hv);exact⟨this.1,hD _ _ this.2⟩)
   refine tT (w':=w.setRow b (cU (k*s+j) cur.toList (a.eval y).cells.toList).toArray) (β':=β) ?_ (by simp only[mD];exact this.1) (by simp only[mD];exact g1.trans this.2) rfl
   simp only[execOp,ho,Instr.storeAt,Instr.sureAddr,hval,Sem.run_bind,Sem.run_pure,Result.andThen_ok,hrun]
theorem Ms(hT:mA P T)(m:fX w0 X H β w)(hg:∀x,R w (Ex X β H) β H (g x) (a.eval x)){t:TypeId}{x y:Operand}(ho:o.op=.store t x y)(ht:(T t).k.isNone=false)
 (hok:(cW H (T t) (g x) (g y)).ok):pP P w0 X H β w a o (cW H (T t) (g x) (g y)):=by
 cases hx:g x with
 |bx id off=>
  rw[hx]at hok
  simp only[cW]at hok⊢
  cases hH:H id with
  |box fz cs=>cases fz with
   |false=>rw[hH]at hok;exact Gs hT m hg ho ht hx hH hok
   |true=>rw[hH]at hok;exact hok.elim
  |_=>rw[hH]at hok;exact hok.elim
 |rp id k j=>
  rw[hx]at hok
  simp only[cW]at hok⊢
  cases hH:H id with
  |row fz s xs=>cases fz with
   |false=>
    rw[hH]at hok
    simp only at hok⊢
    cases hz:close H 8 (g y)with
    |none=>rw[hz]at hok;exact hok.elim
    |some z=>
     rw[hz]at hok
     simp only at hok⊢
     have hob:=m.obj id
     simp only[fU,hH]at hob
     obtain⟨hpos,hall,_⟩:=hob
     by_cases hj:j=0∧(T t).size=s
     ·rw[if_pos hj]at hok⊢
      obtain⟨h1,h2,h3⟩:=hok
      obtain⟨hcl,_⟩:=uN h1 hall
      obtain⟨hj0,hjs⟩:=hj
      subst hj0
      refine BG hT m hg ho ht hx hH hz h3 h1 (by omega) (by omega) h2 ?_
      unfold cU
      rw[List.drop_eq_nil_of_le (by omega)]
      simp
     ·rw[if_neg hj]at hok⊢
      obtain⟨h1,h2,h3,h4,h5⟩:=hok
      obtain⟨hcl,_⟩:=uN h1 hall
      exact BG hT m hg ho ht hx hH hz h5 h1 h2 h3 (by show(cU j (aE (xs.getD k default)) (aE z)).length=s;rw[lM (by omega)];exact hcl) rfl
   |true=>rw[hH]at hok;exact hok.elim
  |_=>rw[hH]at hok;exact hok.elim
 |_=>rw[hx]at hok;exact hok.elim
end
end Go.Eng
namespace Go.Eng
open Go.RowKit
section
variable{P:Program} {T:TypeId→lA} {w0:iU} {X:Nat→Prop} {H:Nat→aX} {β:Nat→Option Nat} {w:World} {a:Act} {o:Oper} {g:Operand→LV} {E:Nat→Prop}
theorem lP{α γ:Type}{f:α→γ}{l:List α}{i:Nat}{y:γ}(h:(l.map f)[i]? =some y):∃x,l[i]? =some x∧f x=y:=by
 rw[List.getElem?_map,Option.map_eq_some_iff]at h;exact h
theorem RD.ro_drop{cs:List DV}{b off k:Nat}(h:RD w E (.ro cs) (.pointer (some ⟨b,off,none⟩))):RD w E (.ro (cs.drop k)) (.pointer (some ⟨b,off+k,none⟩)):=by
 cases h with
 |ro _ _ _ us hb hul h1 hlt hcell hp=>
  refine .ro (cs.drop k) b (off+k) (us.drop k) hb (by simp[hul]) (fun u hu=>h1 u (List.mem_of_mem_drop hu)) hlt (fun j u hu=>?_) fun i d v hd hv=>?_
  ·rw[List.getElem?_drop]at hu
   have:=hcell (k+j) u hu
   rwa[Nat.add_assoc]
  ·rw[List.getElem?_drop]at hd hv;exact hp _ d v hd hv
theorem RD.ro_form{cs:List DV}{v:Value}(h:RD w E (.ro cs) v):∃b off,v=.pointer (some ⟨b,off,none⟩):=by cases h;exact⟨_,_,rfl⟩
theorem Mt(hT:mA P T)(m:fX w0 X H β w)(hg:∀x,R w (Ex X β H) β H (g x) (a.eval x)){s:TypeId}{x:Operand}{f:Nat}(ho:o.op=.fieldAddr s x f)
 (ht:∀fs,(T s).k=.struct fs→∀p∈fs,(T p.2).k.isNone=false)(hok:(dG T H s (g x) f).ok):pP P w0 X H β w a o (dG T H s (g x) f):=by
 have hx:=hg x
 generalize g x=lx at*
 generalize hval:a.eval x=vx at hx
 unfold dG at*
 split at hok
 ·rename_i fs hk
  obtain⟨fa,hu,hm⟩:=hT.struct hk
  split at hok
  ·rename_i off ty hf
   rw[←hm]at hf
   obtain⟨fl,hfl,hfe⟩:=lP hf
   injection hfe with e1 e2
   have hty:(T ty).k.isNone=false:=ht fs hk (off,ty) (by rw[←hm];exact List.mem_of_getElem? hf)
   have hrun:∀b o',vx=.pointer (some ⟨b,o',none⟩)→(T ty).size≠0→(execOp a.eval o).run P w=.ok (.value (.pointer (some ⟨b,o'+off,none⟩))) w:=by
    intro b o' hv hsz
    have hfl':fa[f]? =some fl:=by simpa using hfl
    have hso:=cQ (P:=P) (w:=w) hT hty
    rw[hv]at hval
    simp[execOp,ho,Instr.fieldAt,run_underlying hu,hfl',Instr.sureAddr,hval,fieldPlace,e2,hso,hsz,e1,Addr.add_lit]
   split at hok
   ·rename_i id o'
    simp only[oZ.cond]at hok⊢
    cases hx with
    |bx _ _ b fz cs hH hb=>exact pP.plain m (hrun b o' rfl hok.1) (.bx id (o'+off) b fz cs hH hb)
    |bxdead _ _ _ hd=>rw[hd]at hok;exact absurd hok.2 (by simp[aX.live])
   ·rename_i id k j
    simp only[oZ.cond]at hok⊢
    cases hx with
    |rp _ _ _ b fz s' xs hH hb=>
     have:=hrun b (k*s'+j) rfl hok.1
     rw[Nat.add_assoc]at this
     exact pP.plain m this (.rp id k (j+off) b fz s' xs hH hb)
    |rpdead _ _ _ _ hd=>rw[hd]at hok;exact absurd hok.2 (by simp[aX.live])
   ·rename_i cs
    simp only[oZ.cond]at hok⊢
    cases hx with
    |d _ _ hx=>
     obtain⟨b,o',rfl⟩:=hx.ro_form
     exact pP.plain m (hrun b o' rfl hok) (.d _ _ hx.ro_drop)
   ·exact hok.elim
  ·exact hok.elim
 ·exact hok.elim
theorem CM(hT:mA P T){t:TypeId}(h:(T t).k.isNone=false){cs:List Value}{off:Nat}(hle:off+(T t).size≤cs.length)(hs:(T t).k.agg=false→(T t).size=1):
 (part t cs.toArray off).run P w=.ok (if(T t).k.agg then .agg ((cs.drop off).take (T t).size).toArray else((cs.drop off).take (T t).size).getD 0 undef) w:=by
 unfold part
 rw[Sem.run_bind,Er hT h]
 simp only[Result.andThen_ok]
 cases e:(T t).k.agg
 ·have:=hs e
  have h1:off<cs.length:=by omega
  simp[this,h1,List.getD_eq_getElem?_getD,List.getElem?_drop]
 ·simp[cQ hT h]
theorem OS(hT:mA P T)(m:fX w0 X H β w)(hg:∀x,R w (Ex X β H) β H (g x) (a.eval x)){s:TypeId}{x:Operand}{f:Nat}(ho:o.op=.field s x f)
 (ht:∀fs,(T s).k=.struct fs→∀p∈fs,(T p.2).k.isNone=false)(hok:(Aa T s (g x) f).ok):pP P w0 X H β w a o (Aa T s (g x) f):=by
 have hx:=hg x
 generalize g x=lx at*
 generalize hval:a.eval x=vx at hx
 unfold Aa at*
 split at hok
 ·rename_i fs hk
  obtain⟨fa,hu,hm⟩:=hT.struct hk
  split at hok
  ·rename_i off ty hf
   rw[←hm]at hf
   obtain⟨fl,hfl,hfe⟩:=lP hf
   injection hfe with e1 e2
   have hty:(T ty).k.isNone=false:=ht fs hk (off,ty) (by rw[←hm];exact List.mem_of_getElem? hf)
   have hfl':fa[f]? =some fl:=by simpa using hfl
   split at hok
   ·rename_i cs
    simp only[oZ.cond]at hok⊢
    cases hx with
    |d _ _ hx=>cases hx with
     |agg _ vs hl h1 hp=>
      refine pP.plain m ?_ (.d _ _ (Cy (us:=vs) (by omega) (fun u hu _=>h1 u (List.mem_of_getElem? hu)) hok.1 hok.2 hp))
      have hrp:=CM (P:=P) (w:=w) hT hty (cs:=vs) (off:=off) (by omega) hok.2
      simp only[execOp,ho,Instr.field,Sem.run_bind,run_underlying hu,Result.andThen_ok,hfl',hval,asAgg,Sem.run_pure,e1,e2,hrp]
   ·rename_i cs
    simp only[oZ.cond]at hok⊢
    cases hx with
    |agg _ vs hl h1 hp=>
     refine pP.plain m ?_ (FA (us:=vs) (by omega) h1 hok.1 hok.2 hp)
     have hrp:=CM (P:=P) (w:=w) hT hty (cs:=vs) (off:=off) (by omega) hok.2
     simp only[execOp,ho,Instr.field,Sem.run_bind,run_underlying hu,Result.andThen_ok,hfl',hval,asAgg,Sem.run_pure,e1,e2,hrp]
   ·exact hok.elim
  ·exact hok.elim
 ·exact hok.elim
theorem RD.sl_at{xs:List DV}{v:Value}(h:RD w E (.sl xs) v){i:Nat}(hi:i<xs.length){s:Nat}(hs:(aE (xs.getD i default)).length=s):
 ∃b off c,v=.slice (some ⟨b,off,none⟩) xs.length c∧RD w E (.ro (aE (xs.getD i default))) (.pointer (some ⟨b,off+i*s,none⟩)):=by
 cases h with
 |sl0=>simp at hi
 |sl _ b off c size us hx hb hall hlen hc hul h1 hlt hcell hp=>
  obtain⟨hcl,hcc⟩:=uN hi hall
  have hss:s=size:=by rw[←hs,hcl]
  subst hss
  have hks:i*s+s≤xs.length*s:=by have:(i+1)*s≤xs.length*s:=Nat.mul_le_mul_right _ hi;rw[Nat.add_mul,Nat.one_mul]at this;exact this
  refine⟨b,off,c,rfl,.ro _ b (off+i*s) ((us.drop (i*s)).take s) hb (by rw[List.length_take,List.length_drop,hcl];omega) (fun u hu=>h1 u (List.mem_of_mem_drop (List.mem_of_mem_take hu))) hlt (fun j u hu=>?_) fun j d v hd hv=>?_⟩
  ·rw[List.getElem?_take]at hu
   split at hu
   ·rw[List.getElem?_drop]at hu
    have:=hcell _ u hu
    rwa[Nat.add_assoc]
   ·cases hu
  ·rw[List.getElem?_take]at hv
   split at hv
   ·rename_i hj
    rw[List.getElem?_drop]at hv
    exact hp _ d v (by rw[hcc j hj];exact hd) hv
   ·cases hv
theorem FB(hT:mA P T)(m:fX w0 X H β w)(hg:∀x,R w (Ex X β H) β H (g x) (a.eval x)){t:TypeId}{x i:Operand}(ho:o.op=.indexAddr t x i)
 (ht:∀e,(T t).k=.slice e∨(∃n,(T t).k=.arr n e)→(T e).k.isNone=false)(hok:(bK T H t (g x) (g i)).ok):pP P w0 X H β w a o (bK T H t (g x) (g i)):=by
 have hx:=hg x
 have hi:=hg i
 generalize g x=lx at*
 generalize g i=li at*
 generalize hval:a.eval x=vx at hx
 generalize hvi:a.eval i=vi at hi
 unfold bK at*
 split at hok
 ·rename_i e xs k i' hk
  simp only[oZ.cond]at hok⊢
  obtain⟨h0,h1,h2⟩:=hok
  have:=hi.int;subst this
  have hu:=hT.slice hk
  have hso:=cQ (P:=P) (w:=w) hT (ht e (.inl hk))
  cases hx with
  |d _ _ hx=>
   obtain⟨b,off,c,hv,hr⟩:=hx.sl_at (i:=i'.toNat) (by omega) h2
   subst hv
   refine pP.plain m ?_ (.d _ _ hr)
   simp[execOp,ho,Instr.indexAt,hval,hvi,asIntOf,run_underlying hu,hso,h0,h1,Addr.add_lit]
 ·rename_i e id k n kk i' hk
  split at hok
  ·rename_i fz s xs hH
   simp only[oZ.cond]at hok⊢
   obtain⟨h0,h1,h2⟩:=hok
   have:=hi.int;subst this
   have hu:=hT.slice hk
   have hso:=cQ (P:=P) (w:=w) hT (ht e (.inl hk))
   cases hx with
   |ow _ _ _ b c _ _ _ cur e' hH' hb=>
    rw[hH]at hH';injection hH' with _ e1 e2;subst e1;subst e2
    have hr:R w (Ex X β H) β H (.rp id (k+i'.toNat) 0) (.pointer (some ⟨b,k*s+i'.toNat*s,none⟩)):=by
     have:=R.rp (w:=w) (E:=Ex X β H) (β:=β) (H:=H) id (k+i'.toNat) 0 b fz s xs hH hb
     rwa[Nat.add_mul,Nat.add_zero]at this
    refine pP.plain m ?_ hr
    simp[execOp,ho,Instr.indexAt,hval,hvi,asIntOf,run_underlying hu,hso,h0,h1,Addr.add_lit,h2]
   |ow0=>omega
   |owdead _ _ _ _ hd=>rw[hH]at hd;cases hd
  ·exact hok.elim
 ·rename_i e id k n c kk i' hk
  split at hok
  ·rename_i fz s xs hH
   simp only[oZ.cond]at hok⊢
   obtain⟨h0,h1,h2⟩:=hok
   have:=hi.int;subst this
   have hu:=hT.slice hk
   have hso:=cQ (P:=P) (w:=w) hT (ht e (.inl hk))
   cases hx with
   |oc _ _ _ _ p _ _ _ hH' hn hkc hc ha=>
    rw[hH]at hH';injection hH' with _ e1 e2;subst e1;subst e2
    rcases ha with ha|⟨b,hb,rfl⟩
    ·omega
    have hr:R w (Ex X β H) β H (.rp id (k+i'.toNat) 0) (.pointer (some ⟨b,k*s+i'.toNat*s,none⟩)):=by
     have:=R.rp (w:=w) (E:=Ex X β H) (β:=β) (H:=H) id (k+i'.toNat) 0 b fz s xs hH hb
     rwa[Nat.add_mul,Nat.add_zero]at this
    refine pP.plain m ?_ hr
    simp[execOp,ho,Instr.indexAt,hval,hvi,asIntOf,run_underlying hu,hso,h0,h1,Addr.add_lit,h2]
   |ocdead _ _ _ _ _ hd=>rw[hH]at hd;cases hd
  ·exact hok.elim
 ·rename_i n e id off kk i' hk
  simp only[oZ.cond]at hok⊢
  obtain⟨h0,h1,h2⟩:=hok
  have:=hi.int;subst this
  have hu:=hT.arr hk
  have hso:=cQ (P:=P) (w:=w) hT (ht e (.inr ⟨n,hk⟩))
  cases hx with
  |bx _ _ b fz cs hH hb=>
   refine pP.plain m ?_ (.bx id _ b fz cs hH hb)
   simp[execOp,ho,Instr.indexAt,hval,hvi,asIntOf,run_underlying hu,hso,h0,h1,Addr.add_lit,Instr.sureAddr]
  |bxdead _ _ _ hd=>rw[hd]at h2;exact absurd h2 (by simp[aX.live])
 ·rename_i n e id k j kk i' hk
  simp only[oZ.cond]at hok⊢
  obtain⟨h0,h1,h2⟩:=hok
  have:=hi.int;subst this
  have hu:=hT.arr hk
  have hso:=cQ (P:=P) (w:=w) hT (ht e (.inr ⟨n,hk⟩))
  cases hx with
  |rp _ _ _ b fz s xs hH hb=>
   have hr:R w (Ex X β H) β H (.rp id k (j+i'.toNat*(T e).size)) (.pointer (some ⟨b,k*s+j+i'.toNat*(T e).size,none⟩)):=by
    have:=R.rp (w:=w) (E:=Ex X β H) (β:=β) (H:=H) id k (j+i'.toNat*(T e).size) b fz s xs hH hb
    rwa[←Nat.add_assoc]at this
   refine pP.plain m ?_ hr
   simp[execOp,ho,Instr.indexAt,hval,hvi,asIntOf,run_underlying hu,hso,h0,h1,Addr.add_lit,Instr.sureAddr]
  |rpdead _ _ _ _ hd=>rw[hd]at h2;exact absurd h2 (by simp[aX.live])
 ·rename_i n e cs kk i' hk
  simp only[oZ.cond]at hok⊢
  obtain⟨h0,h1⟩:=hok
  have:=hi.int;subst this
  have hu:=hT.arr hk
  have hso:=cQ (P:=P) (w:=w) hT (ht e (.inr ⟨n,hk⟩))
  cases hx with
  |d _ _ hx=>
   obtain⟨b,off,rfl⟩:=hx.ro_form
   refine pP.plain m ?_ (.d _ _ (hx.ro_drop (k:=i'.toNat*(T e).size)))
   simp[execOp,ho,Instr.indexAt,hval,hvi,asIntOf,run_underlying hu,hso,h0,h1,Addr.add_lit,Instr.sureAddr]
 ·exact hok.elim
theorem Mu(hT:mA P T)(m:fX w0 X H β w)(hg:∀x,R w (Ex X β H) β H (g x) (a.eval x)){t:TypeId}{x i:Operand}(ho:o.op=.index t x i)
 (ht:∀e n,(T t).k=.arr n e→(T e).k.isNone=false)(hok:(bJ T t (g x) (g i)).ok):pP P w0 X H β w a o (bJ T t (g x) (g i)):=by
 have hx:=hg x
 have hi:=hg i
 generalize g x=lx at*
 generalize g i=li at*
 generalize hval:a.eval x=vx at hx
 generalize hvi:a.eval i=vi at hi
 unfold bJ at*
 split at hok
 ·rename_i s kk i' hk
  simp only[oZ.cond]at hok⊢
  obtain⟨h0,h1⟩:=hok
  have:=hi.int;subst this
  have:=hx.str;subst this
  have hu:=hT.str hk
  have hlt:i'.toNat<s.length:=by omega
  refine pP.plain m (v:=.int .u8 (s.getD i'.toNat 0).toNat) ?_ (cI _ _)
  have hb:(⟨s.toArray⟩:ByteArray)[i'.toNat]? =some (s.getD i'.toNat 0):=by
   have:i'.toNat<(⟨s.toArray⟩:ByteArray).size:=by simpa [ByteArray.size]using hlt
   rw[getElem?_pos (⟨s.toArray⟩:ByteArray) i'.toNat this]
   simp[List.getD_eq_getElem?_getD,hlt]
   rfl
  simp only[execOp,ho,Instr.index,hval,hvi,asIntOf,Sem.run_bind,Sem.run_pure,Result.andThen_ok,run_underlying hu,h0,if_true,hb]
 ·rename_i n e cs kk i' hk
  simp only[oZ.cond]at hok⊢
  obtain⟨h0,h1,h2,h3⟩:=hok
  have:=hi.int;subst this
  have hu:=hT.arr hk
  have hte:=ht e n hk
  have hso:=cQ (P:=P) (w:=w) hT hte
  cases hx with
  |d _ _ hx=>cases hx with
   |agg _ vs hl h1' hp=>
    refine pP.plain m ?_ (.d _ _ (Cy (us:=vs) (by omega) (fun u hu _=>h1' u (List.mem_of_getElem? hu)) h2 h3 hp))
    have hrp:=CM (P:=P) (w:=w) hT hte (cs:=vs) (off:=i'.toNat*(T e).size) (by omega) h3
    simp only[execOp,ho,Instr.index,hval,hvi,asIntOf,Sem.run_bind,Sem.run_pure,Result.andThen_ok,run_underlying hu,h0,h1,and_self,if_true,hso,hrp]
 ·exact hok.elim
theorem fT{lo:Option Operand}{d:Int}{l:Int}(hg:∀x,R w (Ex X β H) β H (g x) (a.eval x))(h:iE d (lo.map g)=some l):
 (lo=none∧l=d)∨∃x k,lo=some x∧a.eval x=.int k l:=by
 cases lo with
 |none=>left;simp[iE]at h;exact⟨rfl,h.symm⟩
 |some x=>
  right
  have hx:=hg x
  simp only[Option.map_some]at h
  unfold iE at h
  split at h
  ·rename_i heq;cases heq
  ·rename_i k i heq
   injection heq with heq
   injection h with h
   subst h
   rw[heq]at hx
   exact⟨x,_,rfl,hx.int⟩
  ·cases h
theorem vN(isSlice:Bool)(len cap:Nat){lo hi:Option Operand}{l h:Int}(hl:(lo=none∧l=0)∨∃x k,lo=some x∧a.eval x=.int k l)(hh:(hi=none∧h=len)∨∃x k,hi=some x∧a.eval x=.int k h)
 (h0:0≤l)(h1:l≤h)(h2:h≤cap):(Instr.sliceBounds isSlice len cap (lo.map a.eval) (hi.map a.eval) none).run P w=.ok (l.toNat,h.toNat,cap) w:=by
 unfold Instr.sliceBounds
 have b1:∀k c,(Instr.sliceBound (.int k h) cap c).run P w=.ok h.toNat w:=fun k c=>run_sliceBound w k h cap c (by omega) h2
 have b2:∀k c,(Instr.sliceBound (.int k l) h.toNat c).run P w=.ok l.toNat w:=fun k c=>run_sliceBound w k l h.toNat c h0 (by omega)
 rcases hh with⟨rfl,rfl⟩|⟨x,k,rfl,hx⟩<;>rcases hl with⟨rfl,rfl⟩|⟨y,k',rfl,hy⟩
 ·simp
 ·simp at b2;simp[hy,b2]
 ·simp[hx,b1]
 ·simp[hx,hy,b1,b2]
theorem RD.sl_cut{xs:List DV}{a:Option Addr}{n c s l h:Nat}(hr:RD w E (.sl xs) (.slice a n c))(hs:∀x∈xs,(aE x).length=s)(hlh:l≤h)(hh:h≤xs.length):
 RD w E (.sl ((xs.take h).drop l)) (.slice (if c=l then a else a.map (·.add (l*s))) (h-l) (c-l)):=by
 have hlen:((xs.take h).drop l).length=h-l:=by simp;omega
 cases hr with
 |sl0 _ _ hc=>
  simp at hh
  subst hh
  have:l=0:=by omega
  subst this
  simp
  exact .sl0 _ _ hc
 |sl _ b off _ size us hx hb hall hlen' hc hul h1 hlt hcell hp=>
  rcases Nat.eq_zero_or_pos (h-l)with hz|hz
  ·have:(xs.take h).drop l=[]:=List.eq_nil_of_length_eq_zero (by omega)
   rw[this,hz]
   exact .sl0 _ _ (by omega)
  ·have hss:s=size:=by
    have h3:=hs (xs[0]'(by omega)) (List.getElem_mem _)
    have h4:=hall (xs[0]'(by omega)) (List.getElem_mem _)
    omega
   subst hss
   have e1:l*s+(h-l)*s=h*s:=by rw[←Nat.add_mul];congr 1;omega
   have e2:h*s≤xs.length*s:=Nat.mul_le_mul_right _ hh
   have hall':∀x∈(xs.take h).drop l,(aE x).length=s:=fun x hx=>hall x (List.mem_of_mem_take (List.mem_of_mem_drop hx))
   rw[if_neg (by omega)]
   simp only[Option.map_some,Addr.add_lit]
   have hfin:=RD.sl (w:=w) (E:=E) ((xs.take h).drop l) b (off+l*s) (c-l) s ((us.take (h*s)).drop (l*s)) (by intro hh;rw[hh]at hlen;simp at hlen;omega) hb hall' (by omega) (by omega)
    (by rw[hlen,List.length_drop,List.length_take];omega) (fun u hu=>h1 u (List.mem_of_mem_take (List.mem_of_mem_drop hu))) hlt (fun j u hu=>?_) (fun i d v hd hv=>?_)
   ·rw[hlen]at hfin;exact hfin
   ·rw[List.getElem?_drop,List.getElem?_take]at hu
    split at hu
    ·have:=hcell _ u hu;rwa[Nat.add_assoc]
    ·cases hu
   ·rw[yI (fun x hx=>hall x (List.mem_of_mem_take hx)),oD hall,List.getElem?_drop,List.getElem?_take]at hd
    rw[List.getElem?_drop,List.getElem?_take]at hv
    split at hd
    ·rename_i hi;rw[if_pos hi]at hv;exact hp _ d v hd hv
    ·cases hd
theorem sQ(hT:mA P T){t e:TypeId}(hk:(T t).k=.slice e)(he:(T e).k.isNone=false){b:Option Addr}{n c:Nat}{lo hi:Option Operand}{l h:Int}
 (hl:(lo=none∧l=0)∨∃x k,lo=some x∧a.eval x=.int k l)(hh:(hi=none∧h=n)∨∃x k,hi=some x∧a.eval x=.int k h)(h0:0≤l)(h1:l≤h)(h2:h≤c):
 (Instr.sliceAt t (.slice b n c) (lo.map a.eval) (hi.map a.eval) none).run P w=.ok (.slice (if c=l.toNat then b else b.map (·.add (l.toNat*(T e).size))) (h.toNat-l.toNat) (c-l.toNat)) w:=by
 have hu:=hT.slice hk
 have hso:=cQ (P:=P) (w:=w) hT he
 have hb:=vN (P:=P) (w:=w) (a:=a) true n c hl hh h0 h1 h2
 simp only[Instr.sliceAt,Instr.slice,Sem.run_bind,run_underlying hu,Result.andThen_ok,hb,hso,Sem.run_pure]
theorem Ih(hT:mA P T){t e:TypeId}(hk:(T t).k=.slice e)(he:(T e).k.isNone=false){b:Option Addr}{n c:Nat}{lo hi:Option Operand}{mx:Operand}{l h m:Int}{km:IntKind}
 (hl:(lo=none∧l=0)∨∃x k,lo=some x∧a.eval x=.int k l)(hh:(hi=none∧h=n)∨∃x k,hi=some x∧a.eval x=.int k h)(hm:a.eval mx=.int km m)(h0:l=0∧h=0∧m=0):
 ∃b',(Instr.sliceAt t (.slice b n c) (lo.map a.eval) (hi.map a.eval) ((some mx).map a.eval)).run P w=.ok (.slice b' 0 0) w∨(hi=none):=by
 have hu:=hT.slice hk
 have hso:=cQ (P:=P) (w:=w) hT he
 obtain⟨rfl,rfl,rfl⟩:=h0
 rcases hh with⟨rfl,hh⟩|⟨x,k,rfl,hx⟩
 ·exact⟨none,.inr rfl⟩
 ·have b1:∀k y c,(Instr.sliceBound (.int k 0) y c).run P w=.ok 0 w:=fun k y c=>run_sliceBound w k 0 y c (Int.le_refl _) (by omega)
  refine⟨b,.inl ?_⟩
  rcases hl with⟨rfl,_⟩|⟨y,k',rfl,hy⟩
  ·simp[Instr.sliceAt,Instr.slice,Instr.sliceBounds,run_underlying hu,hx,hm,b1,hso]
  ·simp[Instr.sliceAt,Instr.slice,Instr.sliceBounds,run_underlying hu,hx,hm,hy,b1,hso]
theorem CN:∀(n s:Nat) (cs:List DV),(pD n s cs).length=n
 |0,_,_=>rfl
 |n+1,s,cs=>by simp[pD,CN n s]
theorem BH{s:Nat}:∀{n:Nat} {cs:List DV},n*s≤cs.length→bO (pD n s cs)=cs.take (n*s)
 |0,_,_=>by simp[pD,bO]
 |n+1,cs,h=>by
  have e:(n+1)*s=s+n*s:=by rw[Nat.add_mul];omega
  have ih:=BH (s:=s) (n:=n) (cs:=cs.drop s) (by rw[List.length_drop];omega)
  unfold bO at ih⊢
  rw[pD,List.flatMap_cons,ih,e,List.take_add]
  rfl
theorem BI{s:Nat}:∀{n:Nat} {cs:List DV},n*s≤cs.length→∀x∈pD n s cs,(aE x).length=s
 |0,_,_=>by simp[pD]
 |n+1,cs,h=>by
  have e:(n+1)*s=s+n*s:=by rw[Nat.add_mul];omega
  intro x hx
  rw[pD]at hx
  rcases List.mem_cons.1 hx with rfl|hx
  ·show(cs.take s).length=s
   rw[List.length_take];omega
  ·exact BI (cs:=cs.drop s) (by rw[List.length_drop];omega) x hx
theorem OT{E:Nat→Prop}{x d:DV}{v:Value}(h:RD w E x v)(hv:v.oneCell'=true)(hc:aE x=[d]):RD w E d v:=by
 cases x with
 |agg cs=>cases h;simp[Value.oneCell']at hv
 |_=>simp only[aE,List.cons.injEq,and_true]at hc;subst hc;exact h
theorem Mv{l:List DV}(h:∀x∈l,(aE x).length=1):∀{i:Nat} {d:DV},(bO l)[i]? =some d→∃x,l[i]? =some x∧aE x=[d]:=by
 induction l with
 |nil=>intro i d hd;simp[bO]at hd
 |cons x r ih=>
  intro i d hd
  have hx:=h x (List.mem_cons_self ..)
  obtain⟨c,hc⟩:=List.length_eq_one_iff.1 hx
  rw[bO,List.flatMap_cons,hc]at hd
  cases i with
  |zero=>simp at hd;subst hd;exact⟨x,rfl,hc⟩
  |succ i=>
   simp at hd
   exact ih (fun y hy=>h y (List.mem_cons_of_mem _ hy)) hd
theorem Mw(hT:mA P T)(m:fX w0 X H β w)(hg:∀x,R w (Ex X β H) β H (g x) (a.eval x)){t:TypeId}{x:Operand}{lo hi mx:Option Operand}(ho:o.op=.slice t x lo hi mx)
 (ht:∀e,(T t).k=.slice e→(T e).k.isNone=false)(hmx:mx.isSome=true→hi.isSome=true)(hok:(dH T H t (g x) (lo.map g) (hi.map g) (mx.map g)).ok):pP P w0 X H β w a o (dH T H t (g x) (lo.map g) (hi.map g) (mx.map g)):=by
 have hx:=hg x
 generalize g x=lx at*
 generalize hval:a.eval x=vx at hx
 have three:∀{e:TypeId} {b:Option Addr} {n c:Nat} {l h m':Int} {k:IntKind},(T t).k=.slice e→vx=.slice b n c→iE 0 (lo.map g)=some l→iE n (hi.map g)=some h→mx.map g=some (.d (.int k m'))→(l=0∧h=0∧m'=0)→
  pP P w0 X H β w a o ⟨.nl,l=0∧h=0∧m'=0,[]⟩:=by
  intro e b n c l h m' k hk hv h1 h2 h3 h4
  obtain⟨mm,hmm,hgm⟩:=Option.map_eq_some_iff.1 h3
  have hvm:=hg mm
  rw[hgm]at hvm
  obtain⟨b',hr|hr⟩:=Ih (P:=P) (w:=w) (a:=a) (b:=b) (n:=n) (c:=c) hT hk (ht e hk) (fT hg h1) (fT hg h2) hvm.int h4
  ·refine pP.plain m (v:=.slice b' 0 0) ?_ (.nl _)
   rw[hmm]at ho
   simp only[execOp,ho,hval,hv,Sem.run_bind,hr,Result.andThen_ok,Sem.run_pure]
  ·have:=hmx (by rw[hmm];rfl);rw[hr]at this;cases this
 unfold dH at*
 split at hok
 ·rename_i s hk
  split at hok
  ·rename_i l h e1 e2 e3
   simp only[oZ.cond]at hok⊢
   obtain⟨h0,h1,h2⟩:=hok
   have:=hx.str;subst this
   have hu:=hT.str hk
   have hmx':mx=none:=by simpa using e3
   have hb:=vN (P:=P) (w:=w) (a:=a) false s.length s.length (fT hg e1) (fT hg e2) h0 h1 h2
   refine pP.plain m (v:=.string ⟨((s.take h.toNat).drop l.toNat).toArray⟩) ?_ (Ac _)
   have hsz:(⟨s.toArray⟩:ByteArray).size=s.length:=by simp[ByteArray.size]
   have hex:(⟨s.toArray⟩:ByteArray).extract l.toNat h.toNat=⟨((s.take h.toNat).drop l.toNat).toArray⟩:=by
    apply ByteArray.ext
    simp[ByteArray.data_extract,List.drop_take]
   simp[execOp,ho,hval,hmx',Instr.sliceAt,Instr.slice,run_underlying hu,hsz,hb,hex]
  ·exact hok.elim
 ·rename_i e xs hk
  split at hok
  ·rename_i l h e1 e2 e3
   simp only[oZ.cond]at hok⊢
   obtain⟨h0,h1,h2,h3⟩:=hok
   have hmx':mx=none:=by simpa using e3
   subst hmx'
   cases hx with
   |d _ _ hx=>
    have hform:∃b c,vx=.slice b xs.length c∧xs.length≤c:=by cases hx with
     |sl0 a c hc=>exact⟨a,c,rfl,Nat.zero_le _⟩
     |sl _ b off c _ _ _ _ _ hlen=>exact⟨_,c,rfl,hlen⟩
    obtain⟨b,c,rfl,hlc⟩:=hform
    have hr:=sQ (P:=P) (w:=w) (a:=a) (b:=b) (n:=xs.length) (c:=c) hT hk (ht e hk) (fT hg e1) (fT hg e2) h0 h1 (by omega)
    refine pP.plain m ?_ (.d _ _ (hx.sl_cut h3 (l:=l.toNat) (h:=h.toNat) (by omega) (by omega)))
    simp only[execOp,ho,hval,Option.map_none,Sem.run_bind,hr,Result.andThen_ok,Sem.run_pure]
  ·rename_i l h k m' e1 e2 e3
   simp only[oZ.cond]at hok⊢
   cases hx with
   |d _ _ hx=>
    have hform:∃b c,vx=.slice b xs.length c:=by cases hx with
     |sl0 a c hc=>exact⟨a,c,rfl⟩
     |sl _ b off c _ _ _ _ _ hlen=>exact⟨_,c,rfl⟩
    obtain⟨b,c,rfl⟩:=hform
    exact three hk rfl e1 e2 e3 hok
  ·exact hok.elim
 ·rename_i e id k n hk
  split at hok
  ·rename_i fz s xs hH
   split at hok
   ·rename_i l h e1 e2 e3
    simp only[oZ.cond]at hok⊢
    obtain⟨h0,h1,h2,h3⟩:=hok
    have hmx':mx=none:=by simpa using e3
    subst hmx'
    have hob:=m.obj id
    simp only[fU,hH]at hob
    obtain⟨hpos,hall,hob⟩:=hob
    cases hx with
    |ow _ _ _ b c _ _ _ cur e' hH' hb hkn hn hc hblk hroom=>
     rw[hH]at hH';injection hH' with _ q1 q2;subst q1;subst q2
     have hcap:xs.length≤k+c:=by
      rcases hob with⟨hnone,_⟩|⟨b',e'',cur',hb',hblk',hlen',_⟩
      ·rw[hnone]at hb;cases hb
      ·rw[hb]at hb';injection hb' with hb';subst hb'
       rw[hblk]at hblk';injection hblk' with hblk';injection hblk' with p1 p2;subst p1
       rw[←hroom]at hlen'
       exact Nat.le_of_mul_le_mul_right hlen' hpos
     have hr:=sQ (P:=P) (w:=w) (a:=a) (b:=some ⟨b,k*s,none⟩) (n:=n) (c:=c) hT hk (ht e hk) (fT hg e1) (fT hg e2) h0 h1 (by omega)
     have hrR:R w (Ex X β H) β H (.ow id (k+l.toNat) (h-l).toNat) (.slice (if c=l.toNat then some ⟨b,k*s,none⟩else(some (⟨b,k*s,none⟩:Addr)).map (·.add (l.toNat*(T e).size))) (h.toNat-l.toNat) (c-l.toNat)):=by
      have ehl:(h-l).toNat=h.toNat-l.toNat:=by omega
      by_cases hcl:c=l.toNat
      ·rw[if_pos hcl,ehl]
       have e1:h.toNat-l.toNat=0:=by omega
       have e2:c-l.toNat=0:=by omega
       rw[e1,e2]
       refine .ow0 id _ _ fz s xs hH (.inr ⟨b,cur,e',hb,hblk,?_,by omega⟩)
       rw[←hroom,hcl]
      ·rw[if_neg hcl,ehl]
       simp only[Option.map_some,Addr.add_lit]
       rw[←h3,←Nat.add_mul]
       refine .ow id (k+l.toNat) _ b _ fz s xs cur e' hH hb (by omega) (by omega) (by omega) hblk ?_
       have:k+l.toNat+(c-l.toNat)=k+c:=by omega
       rw[this];exact hroom
     refine pP.plain m ?_ hrR
     simp only[execOp,ho,hval,Option.map_none,Sem.run_bind,hr,Result.andThen_ok,Sem.run_pure]
    |ow0 _ _ b _ _ _ hH' hk'=>
     rw[hH]at hH';injection hH' with _ q1 q2;subst q1;subst q2
     have hcap:xs.length≤k:=by
      rcases hob with⟨hnone,he⟩|⟨b',e'',cur',hb',hblk',hlen',_⟩
      ·rw[he];exact Nat.zero_le _
      ·rcases hk' with⟨h1,_⟩|⟨b2,cur2,e2,h1,h2,h3,_⟩
       ·rw[h1]at hb';cases hb'
       ·rw[h1]at hb';injection hb' with hb';subst hb'
        rw[h2]at hblk';injection hblk' with hblk';injection hblk' with p1 p2;subst p1
        rw[←h3]at hlen'
        exact Nat.le_of_mul_le_mul_right hlen' hpos
     have hr0:=R.ow0 (w:=w) (E:=Ex X β H) (β:=β) (H:=H) id k b fz s xs hH hk'
     clear hk'
     have hr:=sQ (P:=P) (w:=w) (a:=a) (b:=b) (n:=0) (c:=0) hT hk (ht e hk) (fT hg e1) (fT hg e2) h0 h1 (by omega)
     refine pP.plain m (v:=.slice (if 0=l.toNat then b else b.map (·.add (l.toNat*(T e).size))) (h.toNat-l.toNat) (0-l.toNat)) (by simp only[execOp,ho,hval,Option.map_none,Sem.run_bind,hr,Result.andThen_ok,Sem.run_pure]) ?_
     have e1:h.toNat-l.toNat=0:=by omega
     have e2:(h-l).toNat=0:=by omega
     rw[e1,e2,Nat.zero_sub]
     have e3:k+l.toNat=k:=by omega
     have e4:l.toNat=0:=by omega
     rw[e3,e4,if_pos rfl]
     exact hr0
    |owdead _ _ _ _ hd=>rw[hH]at hd;cases hd
   ·rename_i l h kk m' e1 e2 e3
    simp only[oZ.cond]at hok⊢
    cases hx with
    |ow _ _ _ b c=>exact three hk rfl e1 e2 e3 hok
    |ow0 _ _ b=>exact three hk rfl e1 e2 e3 hok
    |owdead _ _ _ _ hd=>rw[hH]at hd;cases hd
   ·exact hok.elim
  ·exact hok.elim
 ·rename_i e hk
  split at hok
  ·rename_i l h e1 e2 e3
   simp only[oZ.cond]at hok⊢
   obtain⟨rfl,rfl⟩:=hok
   have hmx':mx=none:=by simpa using e3
   subst hmx'
   cases hx with
   |nl b=>
    have hr:=sQ (P:=P) (w:=w) (a:=a) (b:=b) (n:=0) (c:=0) hT hk (ht e hk) (fT hg e1) (fT hg e2) (Int.le_refl _) (Int.le_refl _) (Int.le_refl _)
    refine pP.plain m (v:=.slice b 0 0) ?_ (.nl _)
    simp only[execOp,ho,hval,Option.map_none,Sem.run_bind,hr,Result.andThen_ok,Sem.run_pure]
    simp
  ·exact hok.elim
 ·rename_i e id k n c hk
  split at hok
  ·rename_i fz s xs hH
   split at hok
   ·rename_i l h e1 e2 e3
    simp only[oZ.cond]at hok⊢
    obtain⟨h0,h1,h2,h3⟩:=hok
    have hmx':mx=none:=by simpa using e3
    subst hmx'
    cases hx with
    |oc _ _ _ _ p _ _ _ hH' hn hkc hc ha=>
     rw[hH]at hH';injection hH' with _ q1 q2;subst q1;subst q2
     have hr:=sQ (P:=P) (w:=w) (a:=a) (b:=p) (n:=n) (c:=c) hT hk (ht e hk) (fT hg e1) (fT hg e2) h0 h1 (by omega)
     have hR:R w (Ex X β H) β H (.oc id (k+l.toNat) (h-l).toNat (c-l.toNat)) (.slice (if c=l.toNat then p else p.map (·.add (l.toNat*(T e).size))) (h-l).toNat (c-l.toNat)):=by
      refine .oc id (k+l.toNat) (h-l).toNat (c-l.toNat) _ fz s xs hH (by omega) (by omega) (by omega) ?_
      by_cases hcl:c=l.toNat
      ·left;omega
      ·right
       rcases ha with ha|⟨b,hb,rfl⟩
       ·omega
       ·exact⟨b,hb,by rw[if_neg hcl];simp only[Option.map_some,Addr.add_lit];rw[←h3,←Nat.add_mul]⟩
     refine pP.plain m ?_ hR
     have:(h-l).toNat=h.toNat-l.toNat:=by omega
     rw[this]
     simp only[execOp,ho,hval,Option.map_none,Sem.run_bind,hr,Result.andThen_ok,Sem.run_pure]
    |ocdead _ _ _ _ _ hd=>rw[hH]at hd;cases hd
   ·exact hok.elim
  ·exact hok.elim
 ·rename_i n e cs hk
  have one:∀{h:Int},(hi=none∧h=n∨∃x k,hi=some x∧a.eval x=.int k h)→lo=none→mx=none→0<h→h≤n→n≤1000→(T e).size=1→n≤cs.length→(T e).k.isNone=false→(∀x∈cs.take n,(aE x).length=1)→∀c,
   pP P w0 X H β w a o ⟨.d (.sl (cs.take h.toNat)),c,[]⟩:=by
   intro h hh hlo hmx' h0 h1 h2 h3 h4 h5 h6 c
   subst hlo;subst hmx'
   cases hx with
   |d _ _ hx=>
    cases hx with
    |ro _ b off us hb hul hu1 hlt hcell hp=>
     have hu:=hT.arr hk
     have hso:=cQ (P:=P) (w:=w) hT h5
     have hsb:=vN (P:=P) (w:=w) (a:=a) false n n (lo:=none) (l:=0) (.inl ⟨rfl,rfl⟩) hh (by omega) (by omega) (by omega)
     have hn0:n≠0:=by omega
     obtain⟨H0,hH0⟩:∃H0:Nat,h=H0:=⟨h.toNat,by omega⟩
     subst hH0
     refine pP.plain m (v:=.slice (some ⟨b,off,none⟩) H0 n) ?_ (.d _ _ ?_)
     ·simp only[Option.map_none]at hsb
      simp[execOp,ho,hval,Instr.sliceAt,run_underlying hu,Instr.sureAddr,hsb,hso,hn0,Addr.add_lit]
     ·have hfl:∀l:List DV,(∀x∈l,(aE x).length=1)→bO l=l.flatMap aE:=fun l _=>rfl
      have hcs:∀x∈cs.take H0,(aE x).length=1:=fun x hx'=>h6 x (by
       have:cs.take H0=(cs.take n).take H0:=by rw[List.take_take,Nat.min_eq_left (by omega)]
       rw[this]at hx';exact List.mem_of_mem_take hx')
      have hlen:(cs.take H0).length=H0:=by rw[List.length_take];omega
      simp only[Int.toNat_natCast]
      have hfin:=RD.sl (w:=w) (E:=Ex X β H) (cs.take H0) b off n 1 (us.take H0) (by intro q;rw[q]at hlen;simp at hlen;omega) hb hcs (by rw[hlen];omega) (Nat.le_trans h2 (by decide))
       (by rw[hlen,List.length_take];omega) (fun u hu=>hu1 u (List.mem_of_mem_take hu)) hlt (fun j u hj=>?_) (fun i d v hd hv=>?_)
      ·rw[hlen]at hfin;exact hfin
      ·rw[List.getElem?_take]at hj
       split at hj
       ·exact hcell j u hj
       ·cases hj
      ·rw[List.getElem?_take]at hv
       split at hv
       ·rename_i hi'
        have hci:i<(cs.take H0).length:=by omega
        obtain⟨dd,hdd,hdq⟩:=Mv hcs hd
        rw[List.getElem?_take,if_pos hi']at hdd
        exact OT (hp i dd v hdd hv) (hu1 v (List.mem_of_getElem? hv)) hdq
       ·cases hv
  split at hok
  ·rename_i e1 e2 e3
   by_cases hag:(T e).k.agg=true
   ·rw[if_pos hag]at hok⊢
    simp only[oZ.cond]at hok⊢
    obtain⟨h0,h1,h2,h3,h4⟩:=hok
    have hlo:lo=none:=by simpa using e1
    have hhi:hi=none:=by simpa using e2
    have hmx':mx=none:=by simpa using e3
    subst hlo;subst hhi;subst hmx'
    cases hx with
    |d _ _ hx=>
     cases hx with
     |ro _ b off us hb hul hu1 hlt hcell hp=>
      have hu:=hT.arr hk
      have hso:=cQ (P:=P) (w:=w) hT h4
      have hsb:=vN (P:=P) (w:=w) (a:=a) false n n (lo:=none) (hi:=none) (l:=0) (h:=n) (.inl ⟨rfl,rfl⟩) (.inl ⟨rfl,rfl⟩) (by omega) (by omega) (by omega)
      have hn0:n≠0:=by omega
      refine pP.plain m (v:=.slice (some ⟨b,off,none⟩) n n) ?_ (.d _ _ ?_)
      ·simp only[Option.map_none]at hsb
       simp[execOp,ho,hval,Instr.sliceAt,run_underlying hu,Instr.sureAddr,hsb,hso,hn0,Addr.add_lit]
      ·have hcl:=CN n (T e).size cs
       have hfl:=BH h3
       have hfin:=RD.sl (w:=w) (E:=Ex X β H) (pD n (T e).size cs) b off n (T e).size (us.take (n*(T e).size)) (by intro q;rw[q]at hcl;simp at hcl;omega) hb (BI h3) (by omega) (Nat.le_trans h1 (by decide))
        (by rw[hcl,List.length_take];omega) (fun u hu=>hu1 u (List.mem_of_mem_take hu)) hlt (fun j u hj=>?_) (fun i d v hd hv=>?_)
       ·rw[hcl]at hfin;exact hfin
       ·rw[List.getElem?_take]at hj
        split at hj
        ·exact hcell j u hj
        ·cases hj
       ·rw[hfl,List.getElem?_take]at hd
        rw[List.getElem?_take]at hv
        split at hd
        ·rename_i hi;rw[if_pos hi]at hv;exact hp i d v hd hv
        ·cases hd
   ·rw[if_neg hag]at hok⊢
    simp only[oZ.cond]at hok⊢
    obtain⟨h0,h1,h2,h3,h4,h5⟩:=hok
    have:=one (h:=(n:Int)) (.inl ⟨by simpa using e2,rfl⟩) (by simpa using e1) (by simpa using e3) (by omega) (by omega) h1 h2 h3 h4 h5 (0<n∧n≤1000∧(T e).size=1∧n≤cs.length∧(T e).k.isNone=false∧∀x∈cs.take n,(aE x).length=1)
    simpa only[Int.toNat_natCast]using this
  ·rename_i k h e1 e2 e3
   by_cases hag:(T e).k.agg=true
   ·rw[if_pos hag]at hok;exact hok.elim
   ·rw[if_neg hag]at hok⊢
    simp only[oZ.cond]at hok⊢
    obtain⟨h0,h1,h2,h3,h4,h5,h6⟩:=hok
    obtain⟨hm,hhm,hgm⟩:=Option.map_eq_some_iff.1 e2
    have hvm:=hg hm
    rw[hgm]at hvm
    exact one (h:=h) (.inr ⟨hm,k,hhm,hvm.int⟩) (by simpa using e1) (by simpa using e3) h0 h1 h2 h3 h4 h5 h6 _
  ·exact hok.elim
 ·exact hok.elim
end
end Go.Eng
