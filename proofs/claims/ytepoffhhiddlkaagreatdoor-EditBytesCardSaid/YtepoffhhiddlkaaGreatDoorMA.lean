/- Part 1 of the proof. No condition. -/
import Derived.WalkKit
import Derived.WalkSpells
import Derived.WalkLawsBesides
import Derived.ChangeKeysEq
set_option linter.unusedVariables false
set_option linter.unusedSimpArgs false
set_option maxRecDepth 20000
set_option maxHeartbeats 4000000
namespace Go.Eng
inductive DV where
 |int (k:IntKind) (n:Int)
 |bool (b:Bool)
 |str (s:List UInt8)
 |agg (cs:List DV)
 |sl (xs:List DV)
 |ro (cs:List DV)
 |fn (f:FuncId) (caps:List DV)
 |bm (f:FuncId) (first:List DV)
 |val (v:Value)
 |mp (ks vs:List DV)
 deriving Inhabited
def Kp:List DV:=[.int .u32 1116352408,.int .u32 1899447441,.int .u32 3049323471,.int .u32 3921009573,.int .u32 961987163,.int .u32 1508970993,.int .u32 2453635748,.int .u32 2870763221,.int .u32 3624381080,.int .u32 310598401,.int .u32 607225278,.int .u32 1426881987,.int .u32 1925078388,.int .u32 2162078206,.int .u32 2614888103,.int .u32 3248222580,.int .u32 3835390401,.int .u32 4022224774,.int .u32 264347078,.int .u32 604807628,.int .u32 770255983,.int .u32 1249150122,.int .u32 1555081692,.int .u32 1996064986,.int .u32 2554220882,.int .u32 2821834349,.int .u32 2952996808,.int .u32 3210313671,.int .u32 3336571891,.int .u32 3584528711,.int .u32 113926993,.int .u32 338241895,.int .u32 666307205,.int .u32 773529912,.int .u32 1294757372,.int .u32 1396182291,.int .u32 1695183700,.int .u32 1986661051,.int .u32 2177026350,.int .u32 2456956037,.int .u32 2730485921,.int .u32 2820302411,.int .u32 3259730800,.int .u32 3345764771,.int .u32 3516065817,.int .u32 3600352804,.int .u32 4094571909,.int .u32 275423344,.int .u32 430227734,.int .u32 506948616,.int .u32 659060556,.int .u32 883997877,.int .u32 958139571,.int .u32 1322822218,.int .u32 1537002063,.int .u32 1747873779,.int .u32 1955562222,.int .u32 2024104815,.int .u32 2227730452,.int .u32 2361852424,.int .u32 2428436474,.int .u32 2756734187,.int .u32 3204031479,.int .u32 3329325298]
def Kq:List DV:=[.int .u32 1116352408,.int .u32 1899447441,.int .u32 3049323471,.int .u32 3921009573,.int .u32 961987163,.int .u32 1508970993,.int .u32 2453635748,.int .u32 2870763221,.int .u32 3624381080,.int .u32 310598401,.int .u32 607225278,.int .u32 1426881987,.int .u32 1925078388,.int .u32 2162078206,.int .u32 2614888103,.int .u32 3248222580,.int .u32 3835390401,.int .u32 4022224774,.int .u32 264347078,.int .u32 604807628,.int .u32 770255983,.int .u32 1249150122,.int .u32 1555081692,.int .u32 1996064986,.int .u32 2554220882,.int .u32 2821834349,.int .u32 2952996808,.int .u32 3210313671,.int .u32 3336571891,.int .u32 3584528711,.int .u32 113926993,.int .u32 338241895,.int .u32 666307205,.int .u32 773529912,.int .u32 1294757372,.int .u32 1396182291,.int .u32 1695183700,.int .u32 1986661051,.int .u32 2177026350,.int .u32 2456956037,.int .u32 2730485921,.int .u32 2820302411,.int .u32 3259730800,.int .u32 3345764771,.int .u32 3516065817,.int .u32 3600352804,.int .u32 4094571909,.int .u32 275423344,.int .u32 430227734,.int .u32 506948616,.int .u32 659060556,.int .u32 883997877,.int .u32 958139571,.int .u32 1322822218,.int .u32 1537002063,.int .u32 1747873779,.int .u32 1955562222,.int .u32 2024104815,.int .u32 2227730452,.int .u32 2361852424,.int .u32 2428436474,.int .u32 2756734187,.int .u32 3204031479,.int .u32 3329325298]
def globD:Nat->Option (List DV)
 |1=>some Kp
 |3=>some Kq
 |_=>none
@[simp] theorem PT:globD 1=some Kp:=rfl
@[simp] theorem PU:globD 3=some Kq:=rfl
open Go.RowKit
structure BP(B:Nat)(w w':World):Prop where
 os:w'.os=w.os
 tape:w'.tape=w.tape
 output:w'.output=w.output
 size:w.heap.size<=w'.heap.size
 block:∀k,k<B->w'.heap[k]? =w.heap[k]?
 drawn:w.drawn<=w'.drawn
theorem BP.below{B:Nat}{w w':World}(h:BP B w w'):Below B w w':=⟨h.os,h.tape,h.output,h.size,h.block⟩
theorem BP.refl(B:Nat)(w:World):BP B w w:=⟨rfl,rfl,rfl,Nat.le_refl _,λ_ _=>rfl,Nat.le_refl _⟩
theorem BP.of_below{B:Nat}{w w':World}(h:Below B w w')(hd:w.drawn<=w'.drawn):BP B w w':=⟨h.os,h.tape,h.output,h.size,h.block,hd⟩
theorem BP.alloc{B:Nat}{w w':World}(h:BP B w w')(hB:B<=w'.heap.size)(o:Obj):BP B w (w'.alloc o):=.of_below (h.below.alloc hB o) h.drawn
theorem BP.drew{B:Nat}{w w':World}(h:BP B w w'):BP B w w'.drew:=.of_below h.below.drew (Nat.le_succ_of_le h.drawn)
def aK:DV->List DV
 | .agg cs=>cs
 |x=>[x]
def bB(xs:List DV):List DV:=xs.flatMap aK
def eR(arr:Array MapEntry)(clock:Nat):Prop:=(∀(i:Nat) (e:MapEntry),arr[i]? =some e->e.born<clock)/\∀(i j:Nat) (e e':MapEntry),arr[i]? =some e->arr[j]? =some e'->e.born=e'.born->i=j
inductive RD(w:World)(E:Nat->Prop):DV->Value->Prop
 |int (k:IntKind) (n:Int):RD w E (.int k n) (.int k n)
 |bool (b:Bool):RD w E (.bool b) (.bool b)
 |str (s:List UInt8):RD w E (.str s) (.string ⟨s.toArray⟩)
 |agg (cs:List DV) (vs:List Value) (hl:vs.length=cs.length) (h1:∀u∈vs,u.oneCell'=true) (h:∀(i:Nat) (c:DV) (v:Value),cs[i]? =some c->vs[i]? =some v->RD w E c v):RD w E (.agg cs) (.agg vs.toArray)
 |sl0 (a:Option Addr) (c:Nat) (hc:c<=maxLen):RD w E (.sl []) (.slice a 0 c)
 |sl (xs:List DV) (b o c size:Nat) (us:List Value) (hx:xs≠[]) (hb:¬E b) (hs:∀x∈xs,(aK x).length=size) (hlen:xs.length<=c) (hc:c<=maxLen)
   (hul:us.length=xs.length*size) (h1:∀u∈us,u.oneCell'=true) (hlt:b<w.heap.size) (hcell:∀(j:Nat) (u:Value),us[j]? =some u->w.cell? ⟨b,o+j,none⟩=some u)
   (h:∀(i:Nat) (d:DV) (v:Value),(bB xs)[i]? =some d->us[i]? =some v->RD w E d v):RD w E (.sl xs) (.slice (some ⟨b,o,none⟩) xs.length c)
 |ro (cs:List DV) (b o:Nat) (us:List Value) (hb:¬E b) (hul:us.length=cs.length) (h1:∀u∈us,u.oneCell'=true) (hlt:b<w.heap.size) (hcell:∀(j:Nat) (u:Value),us[j]? =some u->w.cell? ⟨b,o+j,none⟩=some u)
   (h:∀(i:Nat) (d:DV) (v:Value),cs[i]? =some d->us[i]? =some v->RD w E d v):RD w E (.ro cs) (.pointer (some ⟨b,o,none⟩))
 |fn (f:FuncId) (cs:List DV) (vs:List Value) (hl:vs.length=cs.length) (h:∀(i:Nat) (c:DV) (v:Value),cs[i]? =some c->vs[i]? =some v->RD w E c v):RD w E (.fn f cs) (.func (.func f) #[] vs.toArray)
 |bm (f:FuncId) (cs:List DV) (vs:List Value) (hl:vs.length=cs.length) (h:∀(i:Nat) (c:DV) (v:Value),cs[i]? =some c->vs[i]? =some v->RD w E c v):RD w E (.bm f cs) (.func (.func f) vs.toArray #[])
 |val (v:Value) (hv:v.oneCell'=true):RD w E (.val v) v
 |mp (ks vs:List DV) (b clock:Nat) (arr:Array MapEntry) (hb:¬E b) (hlt:b<w.heap.size) (hblk:w.heap[b]? =some (.map arr clock)) (hk:ks.length=arr.size) (hl:vs.length=arr.size) (hborn:eR arr clock)
   (hkey:∀(i:Nat) (d:DV) (e:MapEntry),ks[i]? =some d->arr[i]? =some e->RD w E d e.key) (hval:∀(i:Nat) (d:DV) (e:MapEntry),vs[i]? =some d->arr[i]? =some e->RD w E d e.val):RD w E (.mp ks vs) (.map (some b))
def Oj(w:World)(E:Nat->Prop)(cs:List DV)(vs:List Value):Prop:=vs.length=cs.length/\∀(i:Nat) (c:DV) (v:Value),cs[i]? =some c->vs[i]? =some v->RD w E c v
theorem MY{w:World}{b o:Nat}{u:Value}(h:w.cell? ⟨b,o,none⟩=some u):b<w.heap.size:=by
 have:=World.block_lt_of_cell? w _ h;exact this
theorem RD.step{w w':World}{E E':Nat->Prop}(hw:∀k,k<w.heap.size->¬E k->w'.heap[k]? =w.heap[k]?)(hs:w.heap.size<=w'.heap.size)(hE:∀k,k<w.heap.size->E' k->E k)
 {d:DV}{v:Value}(h:RD w E d v):RD w' E' d v:=by
 induction h with
 |int k n=>exact .int k n
 |bool b=>exact .bool b
 |str s=>exact .str s
 |agg cs vs hl h1 _ ih=>exact .agg cs vs hl h1 ih
 |sl0 a c hc=>exact .sl0 a c hc
 |sl xs b o c size us hx hb hs' hlen hc hul h1 hlt hcell _ ih=>
  refine .sl xs b o c size us hx (λhe=>hb (hE b hlt he)) hs' hlen hc hul h1 (Nat.lt_of_lt_of_le hlt hs) (λj u hj=>?_) ih;rw[World.cell?_of_block (w:=w) (hw b hlt hb)];exact hcell j u hj
 |ro cs b o us hb hul h1 hlt hcell _ ih=>
  refine .ro cs b o us (λhe=>hb (hE b hlt he)) hul h1 (Nat.lt_of_lt_of_le hlt hs) (λj u hj=>?_) ih;rw[World.cell?_of_block (w:=w) (hw b hlt hb)];exact hcell j u hj
 |fn f cs vs hl _ ih=>exact .fn f cs vs hl ih
 |bm f cs vs hl _ ih=>exact .bm f cs vs hl ih
 |val v hv=>exact .val v hv
 |mp ks vs b clock arr hb hlt hblk hk hl hborn _ _ ih1 ih2=>exact .mp ks vs b clock arr (λhe=>hb (hE b hlt he)) (Nat.lt_of_lt_of_le hlt hs) ((hw b hlt hb).trans hblk) hk hl hborn ih1 ih2
def rS:Obj->Bool
 | .deferred _=>false
 | .loop _=>false
 |_=>true
theorem Iv{w:World}{a:Addr}{u:Value}(h:w.cell? a=some u):∃o,w.heap[a.block]? =some o/\rS o=true:=by
 unfold World.cell? at h;cases ho:w.heap[a.block]? with
 |none=>simp[ho]at h
 |some o=>exact⟨o,rfl,by cases o<;>simp_all[rS]⟩
theorem RD.keep{w w':World}{E:Nat->Prop}(hw:∀(k:Nat) (o:Obj),w.heap[k]? =some o->rS o=true->w'.heap[k]? =some o)(hs:w.heap.size<=w'.heap.size)
 {d:DV}{v:Value}(h:RD w E d v):RD w' E d v:=by
 have hc:∀{a:Addr} {u:Value},w.cell? a=some u->w'.cell? a=some u:=λ{a u} h=>by
  obtain⟨o,h1,h2⟩:=Iv h;rw[World.cell?_of_block (w:=w) ((hw _ o h1 h2).trans h1.symm)];exact h
 induction h with
 |int k n=>exact .int k n
 |bool b=>exact .bool b
 |str s=>exact .str s
 |agg cs vs hl h1 _ ih=>exact .agg cs vs hl h1 ih
 |sl0 a c hc=>exact .sl0 a c hc
 |sl xs b o c size us hx hb hs' hlen hcm hul h1 hlt hcell _ ih=>
  exact .sl xs b o c size us hx hb hs' hlen hcm hul h1 (Nat.lt_of_lt_of_le hlt hs) (λj u hj=>hc (hcell j u hj)) ih
 |ro cs b o us hb hul h1 hlt hcell _ ih=>exact .ro cs b o us hb hul h1 (Nat.lt_of_lt_of_le hlt hs) (λj u hj=>hc (hcell j u hj)) ih
 |fn f cs vs hl _ ih=>exact .fn f cs vs hl ih
 |bm f cs vs hl _ ih=>exact .bm f cs vs hl ih
 |val v hv=>exact .val v hv
 |mp ks vs b clock arr hb hlt hblk hk hl hborn _ _ ih1 ih2=>exact .mp ks vs b clock arr hb (Nat.lt_of_lt_of_le hlt hs) (hw b _ hblk rfl) hk hl hborn ih1 ih2
theorem RD.anti{w:World}{E E':Nat->Prop}(hE:∀k,E' k->E k){d:DV}{v:Value}(h:RD w E d v):RD w E' d v:=
 h.step (λ_ _ _=>rfl) (Nat.le_refl _) λk _=>hE k
def zM(w:World)(E:Nat->Prop):Prop:=∀n cs,globD n=some cs->RD w E (.ro cs) (.pointer (some ⟨n,0,none⟩))/\∃arr t fz,w.heap[n]? =some (.cells arr t fz)/\arr.size=cs.length
theorem RD.ro_block{w:World}{E:Nat->Prop}{cs:List DV}{n:Nat}(h:RD w E (.ro cs) (.pointer (some ⟨n,0,none⟩))):¬E n/\n<w.heap.size:=by
 cases h with|ro _ _ _ us hb _ _ hlt _ _=>exact⟨hb,hlt⟩
theorem zM.step{w w':World}{E E':Nat->Prop}(hw:∀k,k<w.heap.size->¬E k->w'.heap[k]? =w.heap[k]?)(hs:w.heap.size<=w'.heap.size)(hE:∀k,k<w.heap.size->E' k->E k)
 (h:zM w E):zM w' E':=λn cs e=>by
 obtain⟨h1,arr,t,fz,h2,h3⟩:=h n cs e;exact⟨h1.step hw hs hE,arr,t,fz,by rw[hw n h1.ro_block.2 h1.ro_block.1];exact h2,h3⟩
theorem zM.anti{w:World}{E E':Nat->Prop}(hE:∀k,E' k->E k)(h:zM w E):zM w E':=λn cs e=>⟨(h n cs e).1.anti hE,(h n cs e).2⟩
def Po(w:World)(X:Nat->Prop):Prop:=(∀k,X k->k<w.heap.size)/\zM w X
inductive LV where
 |d (x:DV)
 |agg (cs:List LV)
 |bx (id off:Nat)
 |rp (id k j:Nat)
 |ow (id k n:Nat)
 |fn (f:FuncId) (caps:List LV)
 |bm (f:FuncId) (first:List LV)
 |tup (vs:List LV)
 |when (c:Bool) (x:LV)
 |nl
 |mp (id:Nat)
 |it (id:Nat)
 |oc (id k n c:Nat)
 |sb (id k n c:Nat)
 |junk
 deriving Inhabited
inductive aV where
 |absent
 |dead
 |box (fz:Bool) (cs:List LV)
 |row (fz:Bool) (size:Nat) (xs:List DV)
 |map (fz:Bool) (ks vs:List DV)
 |iter (fz:Bool) (ks vs:List DV)
 |know (x:LV) (v:Value)
 deriving Inhabited
def aV.mut:aV->Bool
 | .box fz _=> !fz
 | .row fz _ _=> !fz
 | .map fz _ _=> !fz
 | .iter fz _ _=> !fz
 |_=>false
def aV.live:aV->Bool
 | .box _ _=>true
 | .row _ _ _=>true
 | .map _ _ _=>true
 | .iter _ _ _=>true
 |_=>false
def Ex(X:Nat->Prop)(β:Nat->Option Nat)(H:Nat->aV)(k:Nat):Prop:=X k\/∃id,(H id).mut=true/\β id=some k
inductive R(w:World)(E:Nat->Prop)(β:Nat->Option Nat)(H:Nat->aV):LV->Value->Prop
 |d (x:DV) (v:Value) (h:RD w E x v):R w E β H (.d x) v
 |agg (cs:List LV) (vs:List Value) (hl:vs.length=cs.length) (h1:∀u∈vs,u.oneCell'=true) (h:∀(i:Nat) (c:LV) (v:Value),cs[i]? =some c->vs[i]? =some v->R w E β H c v):R w E β H (.agg cs) (.agg vs.toArray)
 |bx (id off b:Nat) (fz:Bool) (cs:List LV) (hH:H id=.box fz cs) (hb:β id=some b):R w E β H (.bx id off) (.pointer (some ⟨b,off,none⟩))
 |bxdead (id off:Nat) (v:Value) (hH:H id=.dead) (h1:v.oneCell'=true):R w E β H (.bx id off) v
 |rp (id k j b:Nat) (fz:Bool) (size:Nat) (xs:List DV) (hH:H id=.row fz size xs) (hb:β id=some b):R w E β H (.rp id k j) (.pointer (some ⟨b,k*size+j,none⟩))
 |rpdead (id k j:Nat) (v:Value) (hH:H id=.dead) (h1:v.oneCell'=true):R w E β H (.rp id k j) v
 |ow (id k n b c:Nat) (fz:Bool) (size:Nat) (xs:List DV) (cur:Array Value) (e:TypeId) (hH:H id=.row fz size xs) (hb:β id=some b) (hkn:k+n<=xs.length) (hn:n<=c) (hc:c<=maxLen)
   (hblk:w.heap[b]? =some (.cells cur e (0,0))) (hroom:(k+c)*size=cur.size):R w E β H (.ow id k n) (.slice (some ⟨b,k*size,none⟩) n c)
 |ow0 (id k:Nat) (a:Option Addr) (fz:Bool) (size:Nat) (xs:List DV) (hH:H id=.row fz size xs) (h0:(β id=none/\k=0)\/∃b cur e,β id=some b/\w.heap[b]? =some (.cells cur e (0,0))/\k*size=cur.size/\k<=xs.length):R w E β H (.ow id k 0) (.slice a 0 0)
 |owdead (id k n:Nat) (v:Value) (hH:H id=.dead) (h1:v.oneCell'=true):R w E β H (.ow id k n) v
 |fn (f:FuncId) (cs:List LV) (vs:List Value) (hl:vs.length=cs.length) (h:∀(i:Nat) (c:LV) (v:Value),cs[i]? =some c->vs[i]? =some v->R w E β H c v):R w E β H (.fn f cs) (.func (.func f) #[] vs.toArray)
 |bm (f:FuncId) (cs:List LV) (vs:List Value) (hl:vs.length=cs.length) (h:∀(i:Nat) (c:LV) (v:Value),cs[i]? =some c->vs[i]? =some v->R w E β H c v):R w E β H (.bm f cs) (.func (.func f) vs.toArray #[])
 |tup (cs:List LV) (vs:List Value) (hl:vs.length=cs.length) (h:∀(i:Nat) (c:LV) (v:Value),cs[i]? =some c->vs[i]? =some v->R w E β H c v):R w E β H (.tup cs) (.tuple vs.toArray)
 |when (c:Bool) (x:LV) (v:Value) (h:c=true->R w E β H x v) (h0:c=false->v=undef):R w E β H (.when c x) v
 |nl (a:Option Addr):R w E β H .nl (.slice a 0 0)
 |mp (id b:Nat) (fz:Bool) (ks vs:List DV) (hH:H id=.map fz ks vs) (hb:β id=some b):R w E β H (.mp id) (.map (some b))
 |mpdead (id:Nat) (v:Value) (hH:H id=.dead) (h1:v.oneCell'=true):R w E β H (.mp id) v
 |it (id b:Nat) (fz:Bool) (ks vs:List DV) (hH:H id=.iter fz ks vs) (hb:β id=some b):R w E β H (.it id) (.pointer (some ⟨b,0,none⟩))
 |itdead (id:Nat) (v:Value) (hH:H id=.dead) (h1:v.oneCell'=true):R w E β H (.it id) v
 |oc (id k n c:Nat) (a:Option Addr) (fz:Bool) (size:Nat) (xs:List DV) (hH:H id=.row fz size xs) (hn:n<=c) (hkc:k+c<=xs.length) (hc:c<=maxLen) (ha:c=0\/∃b,β id=some b/\a=some ⟨b,k*size,none⟩):R w E β H (.oc id k n c) (.slice a n c)
 |ocdead (id k n c:Nat) (v:Value) (hH:H id=.dead) (h1:v.oneCell'=true):R w E β H (.oc id k n c) v
 |sb (id k n c:Nat) (a:Option Addr) (b:Nat) (fz:Bool) (cs:List LV) (hH:H id=.box fz cs) (hb:β id=some b) (hn:n<=c) (hc:c<=maxLen) (ha:c=0\/a=some ⟨b,k,none⟩):R w E β H (.sb id k n c) (.slice a n c)
 |sbdead (id k n c:Nat) (v:Value) (hH:H id=.dead) (h1:v.oneCell'=true):R w E β H (.sb id k n c) v
 |junk (v:Value):R w E β H .junk v
def bL(w:World)(β:Nat->Option Nat)(H:Nat->aV)(w':World)(β':Nat->Option Nat)(H':Nat->aV)(id:Nat):Prop:=
 match H id with
 | .absent=>True
 | .dead=>H' id=.dead
 | .box _ _=>H' id=.dead\/((∃fz cs,H' id=.box fz cs)/\β' id=β id)
 | .row _ size xs=>H' id=.dead\/((∃fz xs',H' id=.row fz size xs'/\xs.length<=xs'.length)/\β' id=β id/\
     ∀b cur e,β id=some b->w.heap[b]? =some (.cells cur e (0,0))->∃cur' e',w'.heap[b]? =some (.cells cur' e' (0,0))/\cur'.size=cur.size)
 | .map _ _ _=>H' id=.dead\/((∃fz ks vs,H' id=.map fz ks vs)/\β' id=β id)
 | .iter _ _ _=>H' id=.dead\/((∃fz ks vs,H' id=.iter fz ks vs)/\β' id=β id)
 | .know _ _=>True
theorem R.step{w w':World}{E E':Nat->Prop}{β β':Nat->Option Nat}{H H':Nat->aV}(hD:∀x v,RD w E x v->RD w' E' x v)(hP:∀id,bL w β H w' β' H' id)
 {l:LV}{v:Value}(h:R w E β H l v):R w' E' β' H' l v:=by
 induction h with
 |d x v h=>exact .d x v (hD x v h)
 |agg cs vs hl h1 _ ih=>exact .agg cs vs hl h1 ih
 |bx id off b fz cs hH hb=>
  have hp:=hP id;simp only[bL,hH]at hp;rcases hp with hp|⟨⟨fz',cs',hp⟩,hb'⟩
  ·exact .bxdead _ _ _ hp rfl
  ·exact .bx id off b fz' cs' hp (hb'.trans hb)
 |bxdead id off v hH h1=>exact .bxdead id off v (by have hp:=hP id;simpa only[bL,hH]using hp) h1
 |rp id k j b fz size xs hH hb=>
  have hp:=hP id;simp only[bL,hH]at hp;rcases hp with hp|⟨⟨fz',xs',hp,_⟩,hb',_⟩
  ·exact .rpdead _ _ _ _ hp rfl
  ·exact .rp id k j b fz' size xs' hp (hb'.trans hb)
 |rpdead id k j v hH h1=>exact .rpdead id k j v (by have hp:=hP id;simpa only[bL,hH]using hp) h1
 |ow id k n b c fz size xs cur e hH hb hkn hn hc hblk hroom=>
  have hp:=hP id;simp only[bL,hH]at hp;rcases hp with hp|⟨⟨fz',xs',hp,hlen⟩,hb',hh⟩
  ·exact .owdead _ _ _ _ hp rfl
  ·obtain⟨cur',e',hblk',hsz⟩:=hh b cur e hb hblk;exact .ow id k n b c fz' size xs' cur' e' hp (hb'.trans hb) (by omega) hn hc hblk' (hroom.trans hsz.symm)
 |ow0 id k a fz size xs hH h0=>
  have hp:=hP id;simp only[bL,hH]at hp;rcases hp with hp|⟨⟨fz',xs',hp,hlen⟩,hb',hh⟩
  ·exact .owdead _ _ _ _ hp rfl
  ·refine .ow0 id k a fz' size xs' hp ?_;rcases h0 with⟨h1,h2⟩|⟨b,cur,e,h1,h2,h3,h4⟩
   ·exact .inl ⟨hb'.trans h1,h2⟩
   ·obtain⟨cur',e',hblk',hsz⟩:=hh b cur e h1 h2;exact .inr ⟨b,cur',e',hb'.trans h1,hblk',h3.trans hsz.symm,by omega⟩
 |owdead id k n v hH h1=>exact .owdead id k n v (by have hp:=hP id;simpa only[bL,hH]using hp) h1
 |fn f cs vs hl _ ih=>exact .fn f cs vs hl ih
 |bm f cs vs hl _ ih=>exact .bm f cs vs hl ih
 |tup cs vs hl _ ih=>exact .tup cs vs hl ih
 |when c x v _ h0 ih=>exact .when c x v ih h0
 |nl a=>exact .nl a
 |mp id b fz ks vs hH hb=>
  have hp:=hP id;simp only[bL,hH]at hp;rcases hp with hp|⟨⟨fz',ks',vs',hp⟩,hb'⟩
  ·exact .mpdead _ _ hp rfl
  ·exact .mp id b fz' ks' vs' hp (hb'.trans hb)
 |mpdead id v hH h1=>exact .mpdead id v (by have hp:=hP id;simpa only[bL,hH]using hp) h1
 |it id b fz ks vs hH hb=>
  have hp:=hP id;simp only[bL,hH]at hp;rcases hp with hp|⟨⟨fz',ks',vs',hp⟩,hb'⟩
  ·exact .itdead _ _ hp rfl
  ·exact .it id b fz' ks' vs' hp (hb'.trans hb)
 |itdead id v hH h1=>exact .itdead id v (by have hp:=hP id;simpa only[bL,hH]using hp) h1
 |oc id k n c a fz size xs hH hn hkc hc ha=>
  have hp:=hP id;simp only[bL,hH]at hp;rcases hp with hp|⟨⟨fz',xs',hp,hlen⟩,hb',_⟩
  ·exact .ocdead _ _ _ _ _ hp rfl
  ·exact .oc id k n c a fz' size xs' hp hn (by omega) hc (ha.imp (λh=>h) λ⟨b,h1,h2⟩=>⟨b,hb'.trans h1,h2⟩)
 |ocdead id k n c v hH h1=>exact .ocdead id k n c v (by have hp:=hP id;simpa only[bL,hH]using hp) h1
 |sb id k n c a b fz cs hH hb hn hc ha=>
  have hp:=hP id;simp only[bL,hH]at hp;rcases hp with hp|⟨⟨fz',cs',hp⟩,hb'⟩
  ·exact .sbdead _ _ _ _ _ hp rfl
  ·exact .sb id k n c a b fz' cs' hp (hb'.trans hb) hn hc ha
 |sbdead id k n c v hH h1=>exact .sbdead id k n c v (by have hp:=hP id;simpa only[bL,hH]using hp) h1
 |junk v=>exact .junk v
def cP(w:World)(E:Nat->Prop)(β:Nat->Option Nat)(H:Nat->aV)(id:Nat):Prop:=
 match H id with
 | .box _ cs=>∃b e us,β id=some b/\w.heap[b]? =some (.cells (List.toArray us) e (0,0))/\us.length=cs.length/\(∀u∈us,u.oneCell'=true)/\∀(i:Nat) (c:LV) (v:Value),cs[i]? =some c->us[i]? =some v->R w E β H c v
 | .row _ size xs=>0<size/\(∀x∈xs,(aK x).length=size)/\((β id=none/\xs=[])\/
     ∃b e cur,β id=some b/\w.heap[b]? =some (.cells cur e (0,0))/\xs.length*size<=cur.size/\∀(i:Nat) (d:DV) (v:Value),(bB xs)[i]? =some d->cur[i]? =some v->v.oneCell'=true/\RD w E d v)
 | .map _ ks vs=>∃b arr clock,β id=some b/\w.heap[b]? =some (.map arr clock)/\ks.length=arr.size/\vs.length=arr.size/\eR arr clock/\
     (∀(i:Nat) (d:DV) (e:MapEntry),ks[i]? =some d->arr[i]? =some e->RD w E d e.key)/\∀(i:Nat) (d:DV) (e:MapEntry),vs[i]? =some d->arr[i]? =some e->RD w E d e.val
 | .iter _ ks vs=>∃b bm arr clock seen last,β id=some b/\w.heap[b]? =some (.mapIter (some bm) clock seen last)/\¬E bm/\bm<w.heap.size/\w.heap[bm]? =some (.map arr clock)/\eR arr clock/\last=clock/\
     ks.length=(arr.filter λe=> !seen.contains e.born).size/\vs.length=(arr.filter λe=> !seen.contains e.born).size/\
     (∀(i:Nat) (d:DV) (e:MapEntry),ks[i]? =some d->(arr.filter λe=> !seen.contains e.born)[i]? =some e->RD w E d e.key)/\∀(i:Nat) (d:DV) (e:MapEntry),vs[i]? =some d->(arr.filter λe=> !seen.contains e.born)[i]? =some e->RD w E d e.val
 | .know x v=>R w E β H x v
 |_=>True
structure rP where
 env:Nat->LV
 H:Nat->aV
 ok:Prop
structure cX where
 w:World
 β:Nat->Option Nat
 H:Nat->aV
 pins:List Nat
 flat:Bool
def cX.own(w0:cX)(k:Nat):Prop:=∃id∈w0.pins,(w0.H id).mut=true/\w0.β id=some k
def cX.mine(w0:cX)(k:Nat):Prop:=∃id∈w0.pins,(w0.H id).live=true/\w0.β id=some k
structure MZ(w0:cX)(w:World):Prop where
 os:w.os=w0.w.os
 tape:w.tape=w0.w.tape
 output:w.output=w0.w.output
 size:w0.w.heap.size<=w.heap.size
 block:∀k,k<w0.w.heap.size->¬w0.own k->w.heap[k]? =w0.w.heap[k]?
 drawn:w0.w.drawn<=w.drawn
theorem MZ.of_below{w0:cX}{w w':World}(h:MZ w0 w)(k:BP w.heap.size w w'):MZ w0 w':=
 ⟨k.os.trans h.os,k.tape.trans h.tape,k.output.trans h.output,Nat.le_trans h.size k.size,λi hi hn=>(k.block i (Nat.lt_of_lt_of_le hi h.size)).trans (h.block i hi hn),Nat.le_trans h.drawn k.drawn⟩
def Ce(w0:cX)(w:World)(E:Nat->Prop)(l:List Deferred):Prop:=∃Ds:List Nat,(w0.flat=true->Ds=[])/\Ds.Nodup/\l=Ds.map (λD=>{target:=.collected D,args:= #[]})/\∀D∈Ds,w0.w.heap.size<=D/\¬E D/\w.heap[D]? =some (.deferred (some []))
theorem Ce.nil{w0:cX}{w:World}{E:Nat->Prop}:Ce w0 w E []:=⟨[],λ_=>rfl,List.nodup_nil,rfl,λ_ h=>by cases h⟩
theorem Ce.anti{w0:cX}{w:World}{E E':Nat->Prop}{l:List Deferred}(h:Ce w0 w E l)(he:∀k,E' k->E k):Ce w0 w E' l:=
 let⟨Ds,h0,h1,h2,h3⟩:=h;⟨Ds,h0,h1,h2,λD hD=>⟨(h3 D hD).1,λh=>(h3 D hD).2.1 (he D h),(h3 D hD).2.2⟩⟩
structure oX(N:Nat)(w0:cX)(X:Nat->Prop)(env:Nat->LV)(H:Nat->aV)(β:Nat->Option Nat)(a:Act)(w:World):Prop where
 defers:Ce w0 w (Ex X β H) a.defers
 size:a.tmps.size=N
 ext:MZ w0 w
 xold:(∀k,X k->k<w0.w.heap.size/\¬w0.mine k)/\zM w0.w λk=>X k\/w0.mine k
 fresh:∀id b,(H id).live=true->β id=some b->(w0.w.heap.size<=b\/w0.mine b/\((H id).mut=true->w0.own b))/\b<w.heap.size
 inj:∀i j b,(H i).live=true->(H j).live=true->β i=some b->β j=some b->i=j
 env:∀t,R w (Ex X β H) β H (env t) (a.tmps.getD t undef)
 obj:∀id,cP w (Ex X β H) β H id
 pin:∀id∈w0.pins,bL w0.w w0.β w0.H w β H id
structure cV(w0:cX)(X:Nat->Prop)(H:Nat->aV)(β:Nat->Option Nat)(w:World):Prop where
 ext:MZ w0 w
 xold:(∀k,X k->k<w0.w.heap.size/\¬w0.mine k)/\zM w0.w λk=>X k\/w0.mine k
 fresh:∀id b,(H id).live=true->β id=some b->(w0.w.heap.size<=b\/w0.mine b/\((H id).mut=true->w0.own b))/\b<w.heap.size
 inj:∀i j b,(H i).live=true->(H j).live=true->β i=some b->β j=some b->i=j
 obj:∀id,cP w (Ex X β H) β H id
 pin:∀id∈w0.pins,bL w0.w w0.β w0.H w β H id
theorem bV{o:aV}(h:o.mut=true):o.live=true:=by cases o<;>simp_all[aV.mut,aV.live]
open Go.RowKit
inductive TK where
 |none
 |int (k:IntKind)
 |bool
 |str
 |slice (e:TypeId)
 |struct (fs:List (Nat×TypeId))
 |arr (n:Nat) (e:TypeId)
 |ptr (e:TypeId)
 |map (k e:TypeId)
 |other
 deriving DecidableEq
def TK.isNone:TK->Bool
 | .none=>true
 |_=>false
def TK.isInt:TK->Bool
 | .int _=>true
 |_=>false
def TK.isPtr:TK->Bool
 | .ptr _=>true
 |_=>false
def TK.isBool:TK->Bool
 | .bool=>true
 |_=>false
def TK.isStr:TK->Bool
 | .str=>true
 |_=>false
structure eC where
 k:TK
 size:Nat
 bytes:Nat
 zero:List Value
 eqk:List TK:=[]
def TK.agg:TK->Bool
 | .struct _=>true
 | .arr _ _=>true
 |_=>false
def bU{α:Type}(f:Nat->α)(i:Nat)(x:α)(j:Nat):α:=if j=i then x else f j
def bP{α:Type}(f:Nat->α):List (Nat×α)->Nat->α
 |[],j=>f j
 |p::r,j=>if j=p.1 then p.2 else bP f r j
def De:Value->LV
 | .bool b=>.d (.bool b)
 | .int k n=>.d (.int k n)
 | .string s=>.d (.str s.data.toList)
 | .slice none 0 0=>.nl
 | .agg _=>.junk
 | .tuple _=>.junk
 |v=>.d (.val v)
def mE:Value->LV
 | .bool b=>.d (.bool b)
 | .int k n=>.d (.int k n)
 | .string s=>.d (.str s.data.toList)
 | .slice none 0 0=>.nl
 | .agg vs=>if vs.toList.all Value.oneCell' then .agg (vs.toList.map De)else .junk
 | .tuple _=>.junk
 |v=>.d (.val v)
def oY(env:Nat->LV):Operand->LV
 | .tmp t=>env t
 | .const v=>mE v
 | .func f=>.d (.fn f [])
 | .global n=>match globD n with
   |some cs=>.d (.ro cs)
   |none=>.junk
def cS:LV->List LV
 | .d (.agg cs)=>cs.map .d
 | .agg cs=>cs
 |x=>[x]
def Kr:LV->Bool
 | .oc _ _ _ _=>true
 |_=>false
def Dg:LV->Bool
 | .sb _ _ _ _=>true
 |_=>false
def gO(_:Nat->aV):LV->Bool
 | .d _=>true
 | .agg _=>true
 | .bx _ _=>true
 | .rp _ _ _=>true
 | .ow _ _ _=>true
 | .oc _ _ _ _=>true
 | .sb _ _ _ _=>true
 | .mp _=>true
 | .fn _ _=>true
 | .bm _ _=>true
 | .nl=>true
 |_=>false
def rT:List LV->Option (List DV)
 |[]=>some []
 | .d x::r=>(rT r).map (x::·)
 |_=>none
def mkAgg(cs:List LV):LV:=match rT cs with|some ds=>.d (.agg ds)|none=>.agg cs
def cC{α:Type}:List (Option α)->Option (List α)
 |[]=>some []
 |some x::r=>(cC r).map (x::·)
 |none::_=>none
def close(H:Nat->aV):Nat->LV->Option DV
 |0,_=>none
 |n+1,l=>match l with
  | .d x=>some x
  | .agg cs=>(cC (cs.map (close H n))).map .agg
  | .ow id k m=>match H id with
    | .row _ _ xs=>some (.sl ((xs.drop k).take m))
    |_=>none
  | .oc id k m _=>match H id with
    | .row _ _ xs=>some (.sl ((xs.drop k).take m))
    |_=>none
  | .bx id off=>match H id with
    | .box _ cs=>(cC ((cs.drop off).map (close H n))).map .ro
    |_=>none
  | .fn f cs=>(cC (cs.map (close H n))).map (.fn f)
  | .bm f cs=>(cC (cs.map (close H n))).map (.bm f)
  | .nl=>some (.sl [])
  | .mp id=>match H id with
    | .map _ ks vs=>some (.mp ks vs)
    |_=>none
  |_=>none
def bJ(H:Nat->aV):Nat->LV->List Nat
 |0,_=>[]
 |n+1,l=>match l with
  | .agg cs=>cs.flatMap (bJ H n)
  | .ow id _ _=>[id]
  | .oc id _ _ _=>[id]
  | .mp id=>[id]
  | .bx id off=>match H id with
    | .box _ cs=>id::(cs.drop off).flatMap (bJ H n)
    |_=>[]
  | .fn _ cs=>cs.flatMap (bJ H n)
  | .bm _ cs=>cs.flatMap (bJ H n)
  |_=>[]
def frozen:aV->aV
 | .box _ cs=>.box true cs
 | .row _ s xs=>.row true s xs
 | .map _ ks vs=>.map true ks vs
 | .iter _ ks vs=>.iter true ks vs
 |o=>o
def bF(H:Nat->aV)(ids:List Nat):List (Nat×aV):=ids.map λid=>(id,frozen (H id))
def nZ:List (Nat×LV)->Nat->LV
 |[],_=>.junk
 |p::r,j=>if j=p.1 then p.2 else nZ r j
def gP:List (Nat×aV)->Nat->aV
 |[],_=>.absent
 |p::r,j=>if j=p.1 then p.2 else gP r j
def aU(l:List (Nat×LV)):Nat->LV:=λj=>nZ l j
def aL(l:List (Nat×aV)):Nat->aV:=λj=>gP l j
def cY:List (Nat×Nat)->Nat->Option Nat
 |[],_=>none
 |p::r,i=>if i=p.1 then some p.2 else cY r i
def ren(σ:List (Nat×Nat)):Nat->LV->LV
 |0,_=>.junk
 |n+1,l=>match l with
  | .d x=>.d x
  | .agg cs=>.agg (cs.map (ren σ n))
  | .bx id off=>match cY σ id with|some j=>.bx j off|none=>.junk
  | .rp id k j=>match cY σ id with|some i=>.rp i k j|none=>.junk
  | .ow id k m=>match cY σ id with|some i=>.ow i k m|none=>.junk
  | .oc id k m c=>match cY σ id with|some i=>.oc i k m c|none=>.junk
  | .sb id k m c=>match cY σ id with|some i=>.sb i k m c|none=>.junk
  | .fn f cs=>.fn f (cs.map (ren σ n))
  | .bm f cs=>.bm f (cs.map (ren σ n))
  | .tup cs=>.tup (cs.map (ren σ n))
  | .nl=>.nl
  | .mp id=>match cY σ id with|some j=>.mp j|none=>.junk
  | .it id=>match cY σ id with|some j=>.it j|none=>.junk
  |_=>.junk
def cL(σ:List (Nat×Nat)):aV->aV
 | .box fz cs=>.box fz (cs.map (ren σ 8))
 | .know x v=>.know (ren σ 8 x) v
 |o=>o
structure iO where
 v:LV
 ok:Prop
 up:List (Nat×aV)
def iO.fail:iO:=⟨.junk,False,[]⟩
def iO.plain(v:LV):iO:=⟨v,True,[]⟩
def iO.cond(v:LV)(c:Prop):iO:=⟨v,c,[]⟩
def Ga:DV->DV->Option Bool
 | .int j a,.int k b=>if j=k then some (decide (a=b))else none
 | .bool a,.bool b=>some (a==b)
 | .str a,.str b=>some (a==b)
 |_,_=>none
def eX:List DV->List DV->Option Bool
 |[],[]=>some true
 |a::x,b::y=>match Ga a b,eX x y with
  |some p,some q=>some (p&&q)
  |_,_=>none
 |_,_=>none
def eE:TK->DV->Bool
 | .int _,.int _ _=>true
 | .bool,.bool _=>true
 | .str,.str _=>true
 |_,_=>false
def bH:List TK->List DV->Bool
 |[],[]=>true
 |k::ks,d::ds=>eE k d&&bH ks ds
 |_,_=>false
def bA(eqk:List TK)(tb:Bool)(op:BinOp)(x y:LV):iO:=
 match x,y with
 | .d (.int k a),.d (.int k' b)=>
   match op with
   | .add=>if k=k' then(if k=.i64 then .cond (.d (.int k (a+b))) (-9223372036854775808<=a+b/\a+b<=9223372036854775807)else .plain (.d (.int k (k.wrap (a+b)))))else .fail
   | .sub=>if k=k' then(if k=.i64 then .cond (.d (.int k (a-b))) (-9223372036854775808<=a-b/\a-b<=9223372036854775807)else .plain (.d (.int k (k.wrap (a-b)))))else .fail
   | .mul=>if k=k' then(if k=.i64 then .cond (.d (.int k (a*b))) (-9223372036854775808<=a*b/\a*b<=9223372036854775807)else .plain (.d (.int k (k.wrap (a*b)))))else .fail
   | .quo=>if k=k' then(if k=.i64 then .cond (.d (.int k (a.tdiv b))) (b≠0/\ -9223372036854775808<=a.tdiv b/\a.tdiv b<=9223372036854775807)else .cond (.d (.int k (k.wrap (a.tdiv b)))) (b≠0))else .fail
   | .rem=>if k=k' then .cond (.d (.int k (a.tmod b))) (b≠0)else .fail
   | .lss=>if k=k' then .plain (.d (.bool (decide (a<b))))else .fail
   | .leq=>if k=k' then .plain (.d (.bool (decide (a<=b))))else .fail
   | .gtr=>if k=k' then .plain (.d (.bool (decide (a>b))))else .fail
   | .geq=>if k=k' then .plain (.d (.bool (decide (a>=b))))else .fail
   | .eql=>if k=k' then .plain (.d (.bool (decide (a=b))))else .fail
   | .neq=>if k=k' then .plain (.d (.bool (!decide (a=b))))else .fail
   | .shl=>.cond (.d (.int k (k.wrap (a*2^min b.toNat k.bits)))) (0<=b)
   | .shr=>.cond (.d (.int k (a.fdiv (2^min b.toNat k.bits)))) (0<=b)
   | .and=>if k=k' then .plain (.d (.int k (k.wrap (BitVec.ofInt k.bits a&&&BitVec.ofInt k.bits b).toNat)))else .fail
   | .or=>if k=k' then .plain (.d (.int k (k.wrap (BitVec.ofInt k.bits a|||BitVec.ofInt k.bits b).toNat)))else .fail
   | .xor=>if k=k' then .plain (.d (.int k (k.wrap (BitVec.ofInt k.bits a^^^BitVec.ofInt k.bits b).toNat)))else .fail
   |_=>.fail
 | .d (.str a),.d (.str b)=>
   match op with
   | .add=>.cond (.d (.str (a++b))) (a.length+b.length<=9223372036854775807)
   | .eql=>.plain (.d (.bool (a==b)))
   | .neq=>.plain (.d (.bool (!(a==b))))
   | .lss=>.plain (.d (.bool (Op.bytesLess a b)))
   | .leq=>.plain (.d (.bool (Op.bytesLess a b||a==b)))
   | .gtr=>.plain (.d (.bool (!(Op.bytesLess a b||a==b))))
   | .geq=>.plain (.d (.bool (!Op.bytesLess a b)))
   |_=>.fail
 | .d (.agg a),.d (.agg b)=>
   match op with
   | .eql=>match eX a b with|some c=>.cond (.d (.bool c)) (bH eqk a=true/\a≠[])|none=>.fail
   | .neq=>match eX a b with|some c=>.cond (.d (.bool (!c))) (bH eqk a=true/\a≠[])|none=>.fail
   |_=>.fail
 | .d (.bool a),.d (.bool b)=>
   match op with
   | .eql=>.cond (.d (.bool (a==b))) (tb=true)
   | .neq=>.cond (.d (.bool (!(a==b)))) (tb=true)
   |_=>.fail
 |_,_=>.fail
def oA(op:BinOp)(x y:LV):iO:=
 match op,x,y with
 | .eql,.d (.ro _),.d (.val (.pointer none))=>.plain (.d (.bool false))
 | .neq,.d (.ro _),.d (.val (.pointer none))=>.plain (.d (.bool true))
 | .eql,.d (.val (.pointer none)),.d (.val (.pointer none))=>.plain (.d (.bool true))
 | .neq,.d (.val (.pointer none)),.d (.val (.pointer none))=>.plain (.d (.bool false))
 |_,_,_=>.fail
def pU:Value->DV
 | .bool b=>.bool b
 | .int k n=>.int k n
 | .string s=>.str s.data.toList
 | .slice none 0 0=>.sl []
 |v=>.val v
def dH(t:eC):DV:=if t.k.agg then .agg (t.zero.map pU)else(t.zero.map pU).getD 0 default
def mX(a b:DV):Option Bool:=match a,b with
 | .agg x,.agg y=>eX x y
 |a,b=>Ga a b
def iK(k:DV):List DV->Nat->Option (Option Nat)
 |[],_=>some none
 |x::r,i=>match mX k x with
  |some true=>some (some i)
  |some false=>iK k r (i+1)
  |none=>none
def TK.isStruct:TK->Bool
 | .struct _=>true
 |_=>false
def kQ(t:eC)(d:DV):Bool:=match d with
 | .agg ks=>bH t.eqk ks&& !ks.isEmpty&&t.k.isStruct
 |d=>eE t.k d
def uD(H:Nat->aV):LV->Option (List DV×List DV)
 | .d (.mp ks vs)=>some (ks,vs)
 | .mp id=>match H id with
   | .map _ ks vs=>some (ks,vs)
   |_=>none
 |_=>none
def dZ(T:TypeId->eC)(H:Nat->aV)(t:TypeId)(x i:LV)(ok:Bool):iO:=
 match(T t).k,uD H x,i with
 | .map kt et,some (ks,vs),.d k=>match iK k ks 0 with
   |some (some j)=>.cond (if ok then .tup [.d (vs.getD j default),.d (.bool true)]else .d (vs.getD j default)) (kQ (T kt) k=true)
   |some none=>.cond (if ok then .tup [.d (dH (T et)),.d (.bool false)]else .d (dH (T et))) (kQ (T kt) k=true/\(T et).k.isNone=false)
   |none=>.fail
 |_,_,_=>.fail
def cH(T:TypeId->eC)(H:Nat->aV)(t:TypeId)(m k x:LV):iO:=
 match(T t).k,m,k,x with
 | .map kt _,.mp id,.d k,.d v=>match H id with
   | .map false ks vs=>match iK k ks 0 with
     |some (some j)=>⟨.junk,kQ (T kt) k=true,[(id,.map false ks (vs.set j v))]⟩
     |some none=>⟨.junk,kQ (T kt) k=true,[(id,.map false (ks++[k]) (vs++[v]))]⟩
     |none=>.fail
   |_=>.fail
 |_,_,_,_=>.fail
def fY(T:TypeId->eC)(H:Nat->aV)(t:TypeId)(m k x:LV):iO:=
 match x with
 | .d v=>cH T H t m k (.d v)
 |x=>match close H 8 x with
  |some v=>⟨(cH T (bP H (bF H (bJ H 8 x))) t m k (.d v)).v,(cH T (bP H (bF H (bJ H 8 x))) t m k (.d v)).ok,(cH T (bP H (bF H (bJ H 8 x))) t m k (.d v)).up++bF H (bJ H 8 x)⟩
  |none=>.fail
def fZ(T:TypeId->eC)(H:Nat->aV)(t:TypeId)(m k:LV):iO:=
 match(T t).k,m,k with
 | .map kt _,.mp id,.d k=>match H id with
   | .map false ks vs=>match iK k ks 0 with
     |some (some j)=>⟨.junk,kQ (T kt) k=true,[(id,.map false (ks.eraseIdx j) (vs.eraseIdx j))]⟩
     |some none=>⟨.junk,kQ (T kt) k=true,[(id,.map false ks vs)]⟩
     |none=>.fail
   |_=>.fail
 |_,_,_=>.fail
def jD(H:Nat->aV)(dst:Nat):iO:=⟨.mp dst,H dst=.absent,[(dst,.map false [] [])]⟩
def mO(H:Nat->aV)(dst:Nat):LV->iO
 | .d (.mp ks vs)=>⟨.it dst,H dst=.absent,[(dst,.iter false ks vs)]⟩
 |_=>.fail
def bW(op:UnOp)(x:LV):iO:=
 match op,x with
 | .not,.d (.bool b)=>.plain (.d (.bool (!b)))
 | .xor,.d (.int k n)=>.plain (.d (.int k (k.wrap (BitVec.ofInt k.bits (if k.signed then -1 else k.max)^^^BitVec.ofInt k.bits n).toNat)))
 | .neg,.d (.int k n)=>if k=.i64 then .cond (.d (.int k (0-n))) (-9223372036854775808<=0-n/\0-n<=9223372036854775807)else .plain (.d (.int k (k.wrap (0-n))))
 |_,_=>.fail
def Iw:LV->Bool
 | .when _ (.d (.bool x))=>x
 | .d (.bool x)=>x
 |_=>false
def Pp:LV->Bool
 | .when e (.d (.bool _))=>e
 | .d (.bool _)=>true
 |_=>false
def lL(c a b:LV):iO:=
 match c with
 | .d (.bool p)=>.cond (.d (.bool (bif p then Iw a else Iw b))) ((p=true->Pp a=true)/\(p=false->Pp b=true))
 |_=>.fail
def Cf(agg:Bool)(s off:Nat)(cs:List LV):LV:=if agg then mkAgg ((cs.drop off).take s)else cs.getD off .junk
def Ak(agg:Bool)(s off:Nat)(cs:List DV):DV:=if agg then .agg ((cs.drop off).take s)else cs.getD off default
def lM(H:Nat->aV)(t:eC)(x:LV):iO:=
 match x with
 | .bx id off=>match H id with
   | .box _ cs=>.cond (Cf t.k.agg t.size off cs) (off+t.size<=cs.length/\(t.k.agg=false->t.size=1))
   |_=>.fail
 | .d (.ro cs)=>.cond (.d (Ak t.k.agg t.size 0 cs)) (t.size<=cs.length/\(t.k.agg=false->t.size=1))
 | .rp id k j=>match H id with
   | .row _ _ xs=>.cond (.d (Ak t.k.agg t.size j (aK (xs.getD k default)))) (k<xs.length/\j+t.size<=(aK (xs.getD k default)).length/\(t.k.agg=false->t.size=1))
   |_=>.fail
 |_=>.fail
def aQ{α:Type}(off:Nat)(cs new:List α):List α:=cs.take off++new++cs.drop (off+new.length)
def gJ(H:Nat->aV)(t:eC)(x y:LV):iO:=
 match x with
 | .bx id off=>match H id with
   | .box false cs=>⟨.junk,off+t.size<=cs.length/\(cS y).length=t.size/\gO H y=true,[(id,.box false (aQ off cs (cS y)))]⟩
   |_=>.fail
 | .rp id k j=>match H id with
   | .row false s xs=>match close H 8 y with
     |some z=>if j=0/\t.size=s then⟨.junk,k<xs.length/\(aK z).length=s/\id∉bJ H 8 y,(id,.row false s (xs.set k z))::bF H (bJ H 8 y)⟩
       else⟨.junk,k<xs.length/\j+t.size<=s/\(aK z).length=t.size/\1<s/\id∉bJ H 8 y,(id,.row false s (xs.set k (.agg (aQ j (aK (xs.getD k default)) (aK z)))))::bF H (bJ H 8 y)⟩
     |none=>.fail
   |_=>.fail
 |_=>.fail
def HQ(i:Nat):List (Nat×LV)->Option LV
 |[]=>none
 |p::r=>if p.1=i then some p.2 else HQ i r
def Al(fs:List (Nat×TypeId))(T:TypeId->eC):List LV->List (Nat×LV)->Option (List LV)
 |cs,[]=>some cs
 |cs,(i,x)::r=>match fs[i]? with
  |none=>none
  |some (off,ty)=>if(cS x).length=(T ty).size/\off+(T ty).size<=cs.length then Al fs T (aQ off cs (cS x)) r else none
def oZ(T:TypeId->eC)(H:Nat->aV)(t:TypeId)(ps:List (Nat×LV)):iO:=
 match(T t).k with
 | .struct fs=>match Al fs T ((T t).zero.map mE) ps with
   |some cs=>.cond (mkAgg cs) (∀p∈ps,gO H p.2=true)
   |none=>.fail
 | .arr n e=>match Al ((List.range n).map λi=>(i*(T e).size,e)) T ((T t).zero.map mE) ps with
   |some cs=>.cond (mkAgg cs) (∀p∈ps,gO H p.2=true)
   |none=>.fail
 |_=>.fail
def dQ(T:TypeId->eC)(H:Nat->aV)(dst:Nat)(t:TypeId)(n:Nat)(ps:List (Nat×LV)):iO:=
 match(T t).k with
 | .slice e=>match cC (ps.map λp=>close H 8 p.2)with
   |some xs=>⟨.ow dst 0 n,H dst=.absent/\ps.map (·.1)=List.range n/\0<(T e).size/\(∀x∈xs,(aK x).length=(T e).size)/\n*(T e).size<=16777216,
     (dst,.row false (T e).size xs)::bF H (ps.flatMap λp=>bJ H 8 p.2)⟩
   |none=>.fail
 |_=>.fail
def dK(T:TypeId->eC)(H:Nat->aV)(dst:Nat)(t:TypeId)(n:Nat)(ps:List (Nat×LV)):iO:=
 match(T t).k with
 | .slice e=>match cC (ps.map λp=>close H 8 p.2)with
   |some xs=>⟨.oc dst 0 n n,H dst=.absent/\ps.map (·.1)=List.range n/\0<(T e).size/\(∀x∈xs,(aK x).length=(T e).size)/\n*(T e).size<=16777216,
     (dst,.row false (T e).size xs)::bF H (ps.flatMap λp=>bJ H 8 p.2)⟩
   |none=>.fail
 |_=>.fail
def jE(T:TypeId->eC)(H:Nat->aV)(s:TypeId)(x:LV)(f:Nat):iO:=
 match(T s).k with
 | .struct fs=>match fs[f]? with
   |some (off,ty)=>match x with
    | .bx id o=>.cond (.bx id (o+off)) ((T ty).size≠0/\(H id).live=true)
    | .rp id k j=>.cond (.rp id k (j+off)) ((T ty).size≠0/\(H id).live=true)
    | .d (.ro cs)=>.cond (.d (.ro (cs.drop off))) ((T ty).size≠0)
    |_=>.fail
   |none=>.fail
 |_=>.fail
def vK(T:TypeId->eC)(s:TypeId)(x:LV)(f:Nat):iO:=
 match(T s).k with
 | .struct fs=>match fs[f]? with
   |some (off,ty)=>match x with
    | .d (.agg cs)=>.cond (.d (Ak (T ty).k.agg (T ty).size off cs)) (off+(T ty).size<=cs.length/\((T ty).k.agg=false->(T ty).size=1))
    | .agg cs=>.cond (Cf (T ty).k.agg (T ty).size off cs) (off+(T ty).size<=cs.length/\((T ty).k.agg=false->(T ty).size=1))
    |_=>.fail
   |none=>.fail
 |_=>.fail
def eM(T:TypeId->eC)(H:Nat->aV)(t:TypeId)(x i:LV):iO:=
 match(T t).k,x,i with
 | .slice e,.d (.sl xs),.d (.int _ i)=>.cond (.d (.ro (aK (xs.getD i.toNat default)))) (0<=i/\i<xs.length/\(aK (xs.getD i.toNat default)).length=(T e).size)
 | .slice e,.ow id k n,.d (.int _ i)=>match H id with
   | .row _ s _=>.cond (.rp id (k+i.toNat) 0) (0<=i/\i<n/\s=(T e).size)
   |_=>.fail
 | .slice e,.oc id k n _,.d (.int _ i)=>match H id with
   | .row _ s _=>.cond (.rp id (k+i.toNat) 0) (0<=i/\i<n/\s=(T e).size)
   |_=>.fail
 | .slice e,.sb id k n _,.d (.int _ i)=>.cond (.bx id (k+i.toNat)) (0<=i/\i<n/\(H id).live=true/\(T e).size=1)
 | .arr n e,.bx id off,.d (.int _ i)=>.cond (.bx id (off+i.toNat*(T e).size)) (0<=i/\i<n/\(H id).live=true)
 | .arr n e,.rp id k j,.d (.int _ i)=>.cond (.rp id k (j+i.toNat*(T e).size)) (0<=i/\i<n/\(H id).live=true)
 | .arr n e,.d (.ro cs),.d (.int _ i)=>.cond (.d (.ro (cs.drop (i.toNat*(T e).size)))) (0<=i/\i<n)
 |_,_,_=>.fail
def fA(T:TypeId->eC)(t:TypeId)(x i:LV):iO:=
 match(T t).k,x,i with
 | .str,.d (.str s),.d (.int _ i)=>.cond (.d (.int .u8 (s.getD i.toNat 0).toNat)) (0<=i/\i<s.length)
 | .arr n e,.d (.agg cs),.d (.int _ i)=>.cond (.d (Ak (T e).k.agg (T e).size (i.toNat*(T e).size) cs)) (0<=i/\i<n/\i.toNat*(T e).size+(T e).size<=cs.length/\((T e).k.agg=false->(T e).size=1))
 |_,_,_=>.fail
def jT:Nat->Nat->List DV->List DV
 |0,_,_=>[]
 |n+1,s,cs=>.agg (cs.take s)::jT n s (cs.drop s)
def eS(d:Int):Option LV->Option Int
 |none=>some d
 |some (.d (.int _ i))=>some i
 |_=>none
def jF(T:TypeId->eC)(H:Nat->aV)(t:TypeId)(x:LV)(lo hi mx:Option LV):iO:=
 match(T t).k,x with
 | .str,.d (.str s)=>match eS 0 lo,eS s.length hi,mx with
   |some l,some h,none=>.cond (.d (.str ((s.take h.toNat).drop l.toNat))) (0<=l/\l<=h/\h<=s.length)
   |_,_,_=>.fail
 | .slice e,.d (.sl xs)=>match eS 0 lo,eS xs.length hi,mx with
   |some l,some h,none=>.cond (.d (.sl ((xs.take h.toNat).drop l.toNat))) (0<=l/\l<=h/\h<=xs.length/\∀x∈xs,(aK x).length=(T e).size)
   |some l,some h,some (.d (.int _ m))=>.cond .nl (l=0/\h=0/\m=0)
   |_,_,_=>.fail
 | .slice e,.ow id k n=>match H id with
   | .row _ s xs=>match eS 0 lo,eS n hi,mx with
     |some l,some h,none=>.cond (.ow id (k+l.toNat) (h-l).toNat) (0<=l/\l<=h/\(h<=n\/k+h<=xs.length)/\s=(T e).size)
     |some l,some h,some (.d (.int _ m))=>.cond .nl (l=0/\h=0/\m=0)
     |_,_,_=>.fail
   |_=>.fail
 | .slice _,.nl=>match eS 0 lo,eS 0 hi,mx with
   |some l,some h,none=>.cond .nl (l=0/\h=0)
   |_,_,_=>.fail
 | .slice e,.oc id k n c=>match H id with
   | .row _ s _=>match eS 0 lo,eS n hi,mx with
     |some l,some h,none=>.cond (.oc id (k+l.toNat) (h-l).toNat (c-l.toNat)) (0<=l/\l<=h/\h<=c/\s=(T e).size)
     |_,_,_=>.fail
   |_=>.fail
 | .slice e,.sb id k n c=>match eS 0 lo,eS n hi,mx with
   |some l,some h,none=>.cond (.sb id (k+l.toNat) (h-l).toNat (c-l.toNat)) (0<=l/\l<=h/\h<=c/\(H id).live=true/\(T e).size=1)
   |_,_,_=>.fail
 | .arr n e,.bx id off=>match eS 0 lo,eS n hi,mx with
   |some l,some h,none=>.cond (.sb id (off+l.toNat) (h-l).toNat (n-l.toNat)) (0<=l/\l<=h/\h<=n/\n<=1000/\(H id).live=true/\(T e).size=1/\(T e).k.isNone=false)
   |_,_,_=>.fail
 | .arr n e,.d (.ro cs)=>match lo,hi,mx with
   |none,none,none=>if(T e).k.agg then .cond (.d (.sl (jT n (T e).size cs))) (0<n/\n<=1000/\0<(T e).size/\n*(T e).size<=cs.length/\(T e).k.isNone=false)
    else .cond (.d (.sl (cs.take n))) (0<n/\n<=1000/\(T e).size=1/\n<=cs.length/\(T e).k.isNone=false/\∀x∈cs.take n,(aK x).length=1)
   |none,some (.d (.int _ h)),none=>if(T e).k.agg then .fail
    else .cond (.d (.sl (cs.take h.toNat))) (0<h/\h<=n/\n<=1000/\(T e).size=1/\n<=cs.length/\(T e).k.isNone=false/\∀x∈cs.take n,(aK x).length=1)
   |_,_,_=>.fail
 |_,_=>.fail
def cZ(H:Nat->aV):LV->Option (List DV)
 | .d (.sl xs)=>some xs
 | .d (.str s)=>some (s.map λb=>.int .u8 b.toNat)
 | .nl=>some []
 | .ow id k n=>match H id with
   | .row _ _ xs=>some ((xs.drop k).take n)
   |_=>none
 | .oc id k n _=>match H id with
   | .row _ _ xs=>some ((xs.drop k).take n)
   |_=>none
 |_=>none
def dL(T:TypeId->eC)(H:Nat->aV)(dst:Nat)(t:TypeId)(s x:LV):iO:=
 match(T t).k,cZ H x,s with
 | .slice e,some ys,.oc id k n c=>match H id with
   | .row false sz xs=>if n+ys.length<=c then⟨.oc id k (n+ys.length) c,sz=(T e).size/\∀y∈ys,(aK y).length=sz,[(id,.row false sz (aQ (k+n) xs ys))]⟩
     else⟨.ow dst 0 (n+ys.length),H dst=.absent/\sz=(T e).size/\(∀y∈ys,(aK y).length=sz)/\(n+ys.length)*(T e).bytes<=140737488355328/\n+ys.length<=140737488355328,[(dst,.row false sz ((xs.drop k).take n++ys))]⟩
   |_=>.fail
 |_,_,_=>.fail
def dD(T:TypeId->eC)(H:Nat->aV)(dst:Nat)(t:TypeId)(lo c:Nat)(s x:LV):iO:=
 match(T t).k,cZ H x,s with
 | .slice e,some ys,.nl=>⟨.oc dst 0 ys.length c,H dst=.absent/\0<(T e).size/\(∀y∈ys,(aK y).length=(T e).size)/\ys.length*(T e).bytes<=140737488355328/\ys.length<=140737488355328/\lo=ys.length,
     [(dst,.row false (T e).size (ys++List.replicate (c-ys.length) (dH (T e))))]⟩
 | .slice e,some ys,.oc id _ n cs=>⟨.oc dst 0 ys.length c,(H id).live=true/\n=0/\cs=0/\H dst=.absent/\0<(T e).size/\(∀y∈ys,(aK y).length=(T e).size)/\ys.length*(T e).bytes<=140737488355328/\ys.length<=140737488355328/\lo=ys.length,
     [(dst,.row false (T e).size (ys++List.replicate (c-ys.length) (dH (T e))))]⟩
 |_,_,_=>.fail
def fT(T:TypeId->eC)(H:Nat->aV)(dst:Nat)(t:TypeId)(lo c:Nat)(v:Value)(s x:LV):iO:=
 ⟨.d (.val v),(dD T H dst t lo c s x).ok/\H (dst+1000)=.absent,(dst+1000,.know (dD T H dst t lo c s x).v v)::(dD T H dst t lo c s x).up⟩
def gT(T:TypeId->eC)(H:Nat->aV)(dst:Nat)(t:TypeId)(kid:Nat)(s x:LV):iO:=
 match H kid,s with
 | .know (.oc id k n c) v,.d (.val v')=>⟨(dL T H dst t (.oc id k n c) x).v,v'=v/\(dL T H dst t (.oc id k n c) x).ok,(dL T H dst t (.oc id k n c) x).up⟩
 |_,_=>.fail
def fU(T:TypeId->eC)(H:Nat->aV)(dst:Nat)(t:TypeId)(s x:LV):iO:=
 match(T t).k,s,x with
 | .slice e,.nl,.d (.int _ m)=>⟨.ow dst 0 m.toNat,H dst=.absent/\0<m/\0<(T e).size/\m.toNat*(T e).bytes<=140737488355328/\m.toNat<=140737488355328,[(dst,.row false (T e).size (List.replicate m.toNat (dH (T e))))]⟩
 | .slice e,.oc id k n c,.d (.int _ m)=>match H id with
   | .row false sz xs=>⟨.ow dst 0 (n+m.toNat),H dst=.absent/\0<m/\c<n+m.toNat/\sz=(T e).size/\(n+m.toNat)*(T e).bytes<=140737488355328/\n+m.toNat<=140737488355328,[(dst,.row false sz ((xs.drop k).take n++List.replicate m.toNat (dH (T e))))]⟩
   |_=>.fail
 |_,_,_=>.fail
def gU(T:TypeId->eC)(H:Nat->aV)(dst:Nat)(t:TypeId)(s x:LV):iO:=
 match(T t).k,cZ H x with
 | .slice e,some ys=>match s with
   | .ow id k n=>match H id with
     | .row false sz xs=>⟨.ow dst 0 (n+ys.length),H dst=.absent/\k=0/\sz=(T e).size/\(∀y∈ys,(aK y).length=sz)/\(n+ys.length)*(T e).bytes<=140737488355328/\n+ys.length<=140737488355328,
         [(dst,.row false sz (xs.take n++ys)),(id,.dead)]⟩
     |_=>.fail
   | .nl=>⟨.ow dst 0 ys.length,H dst=.absent/\0<(T e).size/\(∀y∈ys,(aK y).length=(T e).size)/\ys.length*(T e).bytes<=140737488355328/\ys.length<=140737488355328,[(dst,.row false (T e).size ys)]⟩
   |_=>.fail
 |_,_=>.fail
def fB(T:TypeId->eC)(H:Nat->aV)(t:TypeId)(s x:LV):iO:=
 match(T t).k,cZ H x,s with
 | .slice e,some ys,.ow id k n=>match H id with
   | .row false sz xs=>⟨.ow id k (n+ys.length),sz=(T e).size/\(∀y∈ys,(aK y).length=sz)/\k+n+ys.length<=xs.length,[(id,.row false sz (aQ (k+n) xs ys))]⟩
   |_=>.fail
 |_,_,_=>.fail
def oB(T:TypeId->eC)(H:Nat->aV)(t:TypeId)(x:LV)(lo hi mx:Option LV):iO:=
 match(T t).k,x with
 | .slice _,.ow id _ n=>match eS 0 lo,eS n hi,mx with
   |some l,some h,some (.d (.int _ m))=>.cond .junk (0<=l/\l<=h/\h<=m/\m<=n/\(H id).live=true)
   |_,_,_=>.fail
 | .slice e,.d (.sl xs)=>match eS 0 lo,eS xs.length hi,mx with
   |some l,some h,some (.d (.int _ m))=>.cond (.d (.sl ((xs.take h.toNat).drop l.toNat))) (0<=l/\l<=h/\h<=m/\m<=xs.length/\∀x∈xs,(aK x).length=(T e).size)
   |_,_,_=>.fail
 | .slice e,.oc id k n c=>match H id with
   | .row _ s _=>match eS 0 lo,eS n hi,mx with
     |some l,some h,some (.d (.int _ m))=>.cond (.oc id (k+l.toNat) (h-l).toNat (m-l).toNat) (0<=l/\l<=h/\h<=m/\m<=c/\s=(T e).size)
     |_,_,_=>.fail
   |_=>.fail
 |_,_=>.fail
def jG(T:TypeId->eC)(H:Nat->aV)(t:TypeId)(x:LV):iO:=
 match(T t).k,x with
 | .slice e,.ow id k n=>match H id with
   | .row false sz xs=>⟨.tup [],sz=(T e).size/\k+n<=xs.length,[(id,.row false sz (aQ k xs (List.replicate n (dH (T e)))))]⟩
   |_=>.fail
 | .slice e,.oc id k n _=>match H id with
   | .row false sz xs=>⟨.tup [],sz=(T e).size/\k+n<=xs.length,[(id,.row false sz (aQ k xs (List.replicate n (dH (T e)))))]⟩
   |_=>.fail
 |_,_=>.fail
def lN(T:TypeId->eC)(H:Nat->aV)(t:TypeId)(d s:LV):iO:=
 match(T t).k,cZ H s,d with
 | .slice e,some ys,.ow id k n=>match H id with
   | .row false sz xs=>⟨.d (.int .i64 ys.length),sz=(T e).size/\(∀y∈ys,(aK y).length=sz)/\ys.length<=n/\k+n<=xs.length,[(id,.row false sz (aQ k xs ys))]⟩
   |_=>.fail
 |_,_,_=>.fail
def xD(n:Nat):LV->LV
 | .oc j k m c=>.oc j k (min m n) c
 |x=>x
def jH(T:TypeId->eC)(H:Nat->aV)(t:TypeId)(d s:LV):iO:=
 match(T t).k,d with
 | .slice e,.oc id k n _=>match cZ H (xD n s),H id with
   |some ys,.row false sz xs=>⟨.d (.int .i64 ys.length),sz=(T e).size/\(∀y∈ys,(aK y).length=sz)/\ys.length<=n/\k+n<=xs.length,[(id,.row false sz (aQ k xs ys))]⟩
   |_,_=>.fail
 |_,_=>.fail
def pV(s:List UInt8):List LV:=s.map λb=>.d (.int .u8 b.toNat)
def dV(T:TypeId->eC)(H:Nat->aV)(t:TypeId)(d s:LV):iO:=
 match(T t).k,d,s with
 | .slice e,.sb id k n _,.d (.str s)=>match H id with
   | .box false cs=>⟨.d (.int .i64 (min s.length n:Nat)),0<n/\(T e).size=1/\k+n<=cs.length,[(id,.box false (aQ k cs (pV (s.take n))))]⟩
   |_=>.fail
 |_,_,_=>.fail
def lO(T:TypeId->eC)(H:Nat->aV)(dst:Nat)(t:TypeId)(n c:LV):iO:=
 match(T t).k,n,c with
 | .slice e,.d (.int _ n),.d (.int _ c)=>⟨.ow dst 0 n.toNat,H dst=.absent/\0<=n/\n=c/\n<=16777216/\0<(T e).size/\n*(T e).bytes<=140737488355328,[(dst,.row false (T e).size (List.replicate n.toNat (dH (T e))))]⟩
 |_,_,_=>.fail
def rU(op:BinOp)(x y:LV):iO:=
 match x,y with
 | .d (.int k a),.d (.int k' b)=>match op with
   | .add=>.cond (.d (.int k (k.wrap (a+b)))) (k=k')
   | .sub=>.cond (.d (.int k (k.wrap (a-b)))) (k=k')
   | .mul=>.cond (.d (.int k (k.wrap (a*b)))) (k=k')
   |_=>.fail
 |_,_=>.fail
def lP(T:TypeId->eC)(H:Nat->aV)(t:TypeId)(x:LV):iO:=
 match(T t).k,x with
 | .slice _,.oc id _ _ c=>.cond (.d (.int .i64 c)) ((H id).live=true)
 | .slice _,.nl=>.plain (.d (.int .i64 0))
 |_,_=>.fail
def El(H:Nat->aV):LV->Option Nat
 | .d (.sl xs)=>some xs.length
 | .nl=>some 0
 | .ow id _ n=>if(H id).live then some n else none
 |_=>none
def iU(T:TypeId->eC)(H:Nat->aV)(t:TypeId)(lo c:Nat)(x:LV):iO:=
 match(T t).k,x with
 | .slice _,.d (.sl xs)=>.cond (.d (.int .i64 c)) (lo<=xs.length)
 | .slice _,.nl=>.cond (.d (.int .i64 c)) (lo=0)
 | .slice _,.ow id k _=>match H id with
   | .row _ _ xs=>.cond (.d (.int .i64 c)) (lo<=xs.length-k)
   |_=>.fail
 |_,_=>.fail
def Am:Operand->Bool
 | .const (.slice none 0 0)=>true
 |_=>false
def lH(T:TypeId->eC)(H:Nat->aV)(t:TypeId)(e b:Bool)(op:BinOp)(x:LV):iO:=
 match(T t).k,op,El H x with
 | .slice _,.eql,some n=>.cond (.d (.bool b)) (n=0->e=true)
 | .slice _,.neq,some n=>.cond (.d (.bool (!b))) (n=0->e=true)
 |_,_,_=>.fail
def oC(T:TypeId->eC)(H:Nat->aV)(t:TypeId)(x:LV):iO:=
 match(T t).k,x with
 | .str,.d (.str s)=>.plain (.d (.int .i64 s.length))
 | .slice _,.d (.sl xs)=>.plain (.d (.int .i64 xs.length))
 | .slice _,.ow id _ n=>.cond (.d (.int .i64 n)) ((H id).live=true)
 | .slice _,.oc id _ n _=>.cond (.d (.int .i64 n)) ((H id).live=true)
 | .slice _,.sb id _ n _=>.cond (.d (.int .i64 n)) ((H id).live=true)
 | .slice _,.nl=>.plain (.d (.int .i64 0))
 | .arr n _,_=>.plain (.d (.int .i64 n))
 | .map _ _,.d (.mp ks _)=>.plain (.d (.int .i64 ks.length))
 | .map _ _,.mp id=>match H id with
   | .map _ ks _=>.plain (.d (.int .i64 ks.length))
   |_=>.fail
 |_,_=>.fail
def tG(mx:Bool):List LV->iO
 |[.d (.int k a),.d (.int k' b)]=>if k=k' then .plain (.d (.int k (if mx then(if b>a then b else a)else(if b<a then b else a))))else .fail
 |_=>.fail
def cO(x:LV)(i:Nat):iO:=
 match x with
 | .tup vs=>.cond (vs.getD i .junk) (i<vs.length)
 |_=>.fail
def oQ(H:Nat->aV):LV->Option (List DV)
 | .d (.str _)=>none
 |l=>cZ H l
def iX:DV->UInt8
 | .int _ n=>UInt8.ofNat n.toNat
 |_=>0
def aZ(T:TypeId->eC)(H:Nat->aV)(s t:TypeId)(x:LV):iO:=
 match(T s).k,(T t).k,x with
 | .int _,.int k,.d (.int _ n)=>.plain (.d (.int k (k.wrap n)))
 | .str,.str,.d (.str s)=>.plain (.d (.str s))
 | .str,.slice e,.d (.str s)=>match(T e).k with
   | .int .u8=>.cond (.d (.sl (s.map λb=>.int .u8 b.toNat))) (s.length<=16777216)
   |_=>.fail
 | .slice e,.str,x=>match(T e).k,oQ H x with
   | .int .u8,some ys=>.cond (.d (.str (ys.map iX))) (∀y∈ys,∃n,y=.int .u8 n)
   |_,_=>.fail
 |_,_,_=>.fail
inductive RV where
 |d (x:DV)
 |own (size:Nat) (xs:List DV)
 |tup (vs:List RV)
 deriving Inhabited
structure Gb where
 v:RV
 fresh:Bool
def Em(d:Nat):RV->LV
 | .d x=>.d x
 | .own _ xs=>.ow d 0 xs.length
 | .tup _=>.junk
def kR(d:Nat):RV->List (Nat×aV)
 | .own s xs=>[(d,.row false s xs)]
 |_=>[]
def mY:Nat->List RV->List LV
 |_,[]=>[]
 |d,v::r=>Em d v::mY (d+1000) r
def bX:Nat->List RV->List (Nat×aV)
 |_,[]=>[]
 |d,v::r=>kR d v++bX (d+1000) r
open Go.RowKit
def zN(w w':World)(E:Nat->Prop)(B:Option Nat):RV->Value->Prop
 | .d x,v=>RD w' E x v
 | .own s xs,v=>0<s/\(∀x∈xs,(aK x).length=s)/\((B=none/\xs=[]/\∃a,v=.slice a 0 0)\/
     ∃b c cur e,B=some b/\v=.slice (some ⟨b,0,none⟩) xs.length c/\w.heap.size<=b/\w'.heap[b]? =some (.cells cur e (0,0))/\xs.length<=c/\c<=maxLen/\c*s=cur.size/\
      ∀(i:Nat) (d:DV) (v:Value),(bB xs)[i]? =some d->cur[i]? =some v->v.oneCell'=true/\RD w' E d v)
 | .tup _,_=>False
def En(w w':World)(E:Nat->Prop)(r:RV)(v:Value):Prop:=
 match r with
 | .tup rs=>∃(vs:List Value) (B:Nat->Option Nat),v=.tuple vs.toArray/\vs.length=rs.length/\(∀i j b,B i=some b->B j=some b->i=j)/\
     ∀(i:Nat) (r:RV) (v:Value),rs[i]? =some r->vs[i]? =some v->zN w w' (λk=>E k\/∃j,B j=some k) (B i) r v
 |r=>∃B:Option Nat,zN w w' (λk=>E k\/B=some k) B r v
def pA(P:Program)(f:FuncId):Prop:=∃fn,P.funcs[f]? =some fn/\(fn.name== "runtime.NumGoroutine")=false/\fn.body.isSome=true
def Ok(P:Program)(f:FuncId)(args:List DV)(r:Gb):Prop:=
 pA P f/\∀(w:World) (X:Nat->Prop) (vs:List Value),Po w X->Oj w X args vs->
  Calls P f vs.toArray w λe w'=>∃v,e=.returned v/\BP w.heap.size w w'/\En w w' (λk=>X k\/(r.fresh=true/\k<w.heap.size)) r.v v
def MX(P:Program)(f:FuncId)(args:List DV)(Rel:Gb->Prop):Prop:=
 pA P f/\∀(w:World) (X:Nat->Prop) (vs:List Value),Po w X->Oj w X args vs->
  Calls P f vs.toArray w λe w'=>∃v r,Rel r/\e=.returned v/\BP w.heap.size w w'/\En w w' (λk=>X k\/(r.fresh=true/\k<w.heap.size)) r.v v
theorem Ok.toR{P:Program}{f:FuncId}{args:List DV}{r:Gb}(h:Ok P f args r):MX P f args (λr'=>r'=r):=
 ⟨h.1,λw X vs hX hr=>(h.2 w X vs hX hr).mono λ_ _ ⟨v,h1,h2,h3⟩=>⟨v,r,rfl,h1,h2,h3⟩⟩
def gA:LV->Option (FuncId×List LV)
 | .d (.fn f cs)=>some (f,cs.map .d)
 | .fn f cs=>some (f,cs)
 | .d (.bm f _)=>some (f,[])
 | .bm f _=>some (f,[])
 |_=>none
def cE:LV->List LV
 | .d (.bm _ cs)=>cs.map .d
 | .bm _ cs=>cs
 |_=>[]
def An(d:Nat):RV->LV
 | .tup vs=>.tup (mY d vs)
 |v=>Em d v
def gB(d:Nat):RV->List (Nat×aV)
 | .tup vs=>bX d vs
 |v=>kR d v
def BO(P:Program)(f:FuncId)(args:List LV)(h:List (Nat×aV))(fin:List (Nat×aV))(ret:LV):Prop:=
 pA P f/\∀(w:World) (X:Nat->Prop) (β:Nat->Option Nat) (vs:List Value),cV ⟨w,β,aL h,h.map (·.1),false⟩ X (aL h) β w->vs.length=args.length->
  (∀(i:Nat) (c:LV) (v:Value),args[i]? =some c->vs[i]? =some v->R w (Ex X β (aL h)) β (aL h) c v)->
  Calls P f vs.toArray w λe w'=>∃v β',e=.returned v/\cV ⟨w,β,aL h,h.map (·.1),false⟩ X (aL fin) β' w'/\R w' (Ex X β' (aL fin)) β' (aL fin) ret v
def Ks(P:Program)(f:FuncId)(args:List LV)(h:List (Nat×aV))(Rel:List (Nat×aV)->LV->Prop):Prop:=
 pA P f/\∀(w:World) (X:Nat->Prop) (β:Nat->Option Nat) (vs:List Value),cV ⟨w,β,aL h,h.map (·.1),false⟩ X (aL h) β w->vs.length=args.length->
  (∀(i:Nat) (c:LV) (v:Value),args[i]? =some c->vs[i]? =some v->R w (Ex X β (aL h)) β (aL h) c v)->
  Calls P f vs.toArray w λe w'=>∃v β' fin ret,Rel fin ret/\e=.returned v/\cV ⟨w,β,aL h,h.map (·.1),false⟩ X (aL fin) β' w'/\R w' (Ex X β' (aL fin)) β' (aL fin) ret v
theorem BO.toR{P:Program}{f:FuncId}{args:List LV}{h fin:List (Nat×aV)}{ret:LV}(k:BO P f args h fin ret):Ks P f args h (λfin' ret'=>fin'=fin/\ret'=ret):=
 ⟨k.1,λw X β vs m hl hr=>(k.2 w X β vs m hl hr).mono λ_ _ ⟨v,β',h1,h2,h3⟩=>⟨v,β',fin,ret,⟨rfl,rfl⟩,h1,h2,h3⟩⟩
structure Qb where
 σ:List (Nat×Nat)
 new:List (Nat×Nat)
 shut:List Nat
 fin:List (Nat×aV)
 ret:LV
inductive hU where
 |plain (r:Gb)
 |gen (g:Qb)
 |inp
 |wrap
 |cap (lo c:Nat)
 |app (lo c:Nat)
 |appv (lo c:Nat) (v:Value)
 |tie (kid:Nat)
 |nil (e b:Bool)
 |rel (Rel:Gb->Prop) (fr:Bool) (r:Gb)
 |genR (g:Qb) (Rel:List (Nat×aV)->LV->Prop)
def rQ:Option hU->Option hU->Prop
 |some (.cap lo _),r'=>∃c,lo<=c/\c<=maxLen/\r'=some (.cap lo c)
 |some (.app lo _),r'=>∃c,lo<=c/\c<=maxLen/\r'=some (.app lo c)
 |some (.appv lo _ _),r'=>∃c v,lo<=c/\c<=maxLen/\r'=some (.appv lo c v)
 |some (.nil e _),r'=>∃b,(b=true->e=true)/\r'=some (.nil e b)
 |some (.rel Rel fr _),r'=>∃r,Rel r/\r.fresh=fr/\r'=some (.rel Rel fr r)
 |some (.genR g Rel),r'=>∃fin ret,Rel fin ret/\r'=some (.genR {g with fin:=fin,ret:=ret} Rel)
 |r,r'=>r'=r
def yG:Option hU->Bool
 |some .inp=>true
 |_=>false
def fL(σ new:List (Nat×Nat)):List (Nat×Nat):=(σ.map λp=>(p.2,p.1))++new
def jI(H:Nat->aV)(σ:List (Nat×Nat))(shut:List Nat):Nat->List LV->Option (List LV)
 |_,[]=>some []
 |i,l::r=>match jI H σ shut (i+1) r with
  |none=>none
  |some r'=>if shut.contains i then(close H 8 l).map (λx=>.d x::r')else some (ren σ 8 l::r')
def jJ(H:Nat->aV)(shut:List Nat):Nat->List LV->List Nat
 |_,[]=>[]
 |i,l::r=>(if shut.contains i then bJ H 8 l else [])++jJ H shut (i+1) r
def cF(P:Program)(H:Nat->aV)(r:Option hU)(dst:Nat)(callee:LV)(args:List LV):iO:=
 match gA callee,r with
 |some (f,caps),some (.plain r)=>match cC ((args++caps).map (close H 8))with
  |some az=>⟨An dst r.v,Ok P f az r/\(∀p∈gB dst r.v,H p.1=.absent),
    gB dst r.v++(if r.fresh then []else bF H ((args++caps).flatMap (bJ H 8)))⟩
  |none=>.fail
 |some (f,caps),some (.gen g)=>match jI H g.σ g.shut 0 (args++caps)with
  |some az=>⟨ren (fL g.σ g.new) 8 g.ret,
    BO P f az (g.σ.map λp=>(p.2,cL g.σ (H p.1))) g.fin g.ret/\(∀p∈g.σ,(H p.1).live=true)/\((fL g.σ g.new).map (·.1)).Nodup/\((fL g.σ g.new).map (·.2)).Nodup/\
     (∀p∈g.new,H p.2=.absent/\p.2%1000=dst%1000/\dst<=p.2)/\∀id∈jJ H g.shut 0 (args++caps),id∉g.σ.map (·.1),
    ((fL g.σ g.new).map λp=>(p.2,cL (fL g.σ g.new) (aL g.fin p.1)))++bF H (jJ H g.shut 0 (args++caps))⟩
  |none=>.fail
 |some (f,caps),some (.rel Rel fr r)=>match cC ((args++caps).map (close H 8))with
  |some az=>⟨An dst r.v,MX P f az Rel/\(∀q,Rel q->q.fresh=fr)/\(∀p∈gB dst r.v,H p.1=.absent),
    gB dst r.v++(if fr then []else bF H ((args++caps).flatMap (bJ H 8)))⟩
  |none=>.fail
 |some (f,caps),some (.genR g Rel)=>match jI H g.σ g.shut 0 (args++caps)with
  |some az=>⟨ren (fL g.σ g.new) 8 g.ret,
    Ks P f az (g.σ.map λp=>(p.2,cL g.σ (H p.1))) Rel/\(∀p∈g.σ,(H p.1).live=true)/\((fL g.σ g.new).map (·.1)).Nodup/\((fL g.σ g.new).map (·.2)).Nodup/\
     (∀p∈g.new,H p.2=.absent/\p.2%1000=dst%1000/\dst<=p.2)/\∀id∈jJ H g.shut 0 (args++caps),id∉g.σ.map (·.1),
    ((fL g.σ g.new).map λp=>(p.2,cL (fL g.σ g.new) (aL g.fin p.1)))++bF H (jJ H g.shut 0 (args++caps))⟩
  |none=>.fail
 |_,_=>.fail
def jK(T:TypeId->eC)(H:Nat->aV)(t:TypeId)(x:LV):iO:=
 match(T t).k,x with
 | .arr n e,.d (.sl xs)=>.cond (.d (.ro (bB (xs.take n)))) (0<n/\n<=xs.length/\∀x∈xs,(aK x).length=(T e).size)
 | .arr n _,.sb id k m _=>.cond (.bx id k) (0<n/\n<=m/\(H id).live=true)
 |_,_=>.fail
def Pq(P:Program)(T:TypeId->eC)(f:FuncId):Prop:=∃fn t tr e,P.funcs[f]? =some fn/\(fn.name== "runtime.NumGoroutine")=false/\fn.body.isNone=true/\Extern.findNext fn=none/\
 Extern.find fn=some (Extern.SlicesOverlaps.overlaps #[t,t] #[tr])/\(T t).k=.slice e/\(T e).k.isNone=false
def jL(P:Program)(T:TypeId->eC)(H:Nat->aV)(f:LV)(args:List LV):iO:=
 match f,args with
 | .d (.fn f []),[.oc i _ n _,.oc j _ m _]=>match H i,H j with
   | .row _ _ _,.row _ _ _=>.cond (.d (.bool false)) (i≠j/\0<n/\0<m/\Pq P T f)
   |_,_=>.fail
 |_,_=>.fail
def bK(P:Program)(T:TypeId->eC)(H:Nat->aV)(g:Operand->LV)(r:Option hU)(o:Oper):iO:=
 let dst:=o.dst.getD 0
 match o.op with
 | .move x=>.plain (g x)
 | .assign x=>match g x,(T o.type).k,H dst with
   | .nl,.slice e,.absent=>⟨.ow dst 0 0,0<(T e).size,[(dst,.row false (T e).size [])]⟩
   |y,_,_=>.plain y
 | .pick c a b=>lL (g c) (g a) (g b)
 | .alloc t=>⟨.bx dst 0,H dst=.absent/\(T t).k.isNone=false,[(dst,.box false ((T t).zero.map mE))]⟩
 | .box _ x=>⟨.bx dst 0,H dst=.absent/\gO H (g x)=true,[(dst,.box false (cS (g x)))]⟩
 | .build t ps=>oZ T H t (ps.toList.map λp=>(p.1,g p.2))
 | .buildSlice t n ps=>if yG r then dK T H dst t n (ps.toList.map λp=>(p.1,g p.2))else dQ T H dst t n (ps.toList.map λp=>(p.1,g p.2))
 | .load t a=>if(T t).k.isNone then .fail else lM H (T t) (g a)
 | .store t a x=>if(T t).k.isNone then .fail else gJ H (T t) (g a) (g x)
 | .nilCheck x=>match g x with
   | .bx id off=>.cond (.bx id off) ((H id).live=true)
   | .rp id k j=>.cond (.rp id k j) ((H id).live=true)
   | .d (.ro cs)=>.plain (.d (.ro cs))
   | .d (.fn f cs)=>.plain (.d (.fn f cs))
   | .fn f cs=>.plain (.fn f cs)
   |_=>.fail
 | .binOp op t x y _=>match r with
   |some .wrap=>rU op (g x) (g y)
   |some (.nil e b)=>if Am y then lH T H t e b op (g x)else .fail
   |_=>if(T t).k.isPtr then oA op (g x) (g y)else bA (T t).eqk (T t).k.isBool op (g x) (g y)
 | .unOp op _ x=>bW op (g x)
 | .convert s t x=>aZ T H s t (g x)
 | .makeFunc (.func f) first cs=>if first.size=0 then .plain (.fn f (cs.toList.map g))else .cond (.bm f (first.toList.map g)) (cs.size=0)
 | .sliceToArrayPointer t x=>jK T H t (g x)
 | .slice t x lo hi mx=>if mx.isSome&& !hi.isSome then .fail else if yG r&&mx.isSome then oB T H t (g x) (lo.map g) (hi.map g) (mx.map g)else jF T H t (g x) (lo.map g) (hi.map g) (mx.map g)
 | .fieldAddr s x f=>jE T H s (g x) f
 | .field s x f=>vK T s (g x) f
 | .indexAddr t x i=>eM T H t (g x) (g i)
 | .index t x i=>fA T t (g x) (g i)
 | .extract x i=>cO (g x) i
 | .makeSlice t n c=>lO T H dst t (g n) (g c)
 | .makeMap _ none=>jD H dst
 | .lookup t x i ok=>dZ T H t (g x) (g i) ok
 | .mapUpdate t m k x=>fY T H t (g m) (g k) (g x)
 | .insert t m k x=>fY T H t (g m) (g k) (g x)
 | .range t x=>match(T t).k with
   | .map _ _=>mO H dst (g x)
   |_=>.fail
 | .call {callee:=.value f,args, .. }=>if yG r then jL P T H (g f) (args.toList.map g)else cF P H r dst (g f) (cE (g f)++args.toList.map g)
 | .call {callee:=.builtin b,args,argTypes}=>match b,args.toList.map g,argTypes.toList with
   | .len,[x],[t]=>oC T H t x
   | .append,[s,x],[t,u]=>if t=u\/(T u).k.isStr=true then(match r with
     |some .inp=>fB T H t s x
     |some (.app lo c)=>dD T H dst t lo c s x
     |some (.appv lo c v)=>fT T H dst t lo c v s x
     |some (.tie kid)=>gT T H dst t kid s x
     |_=>if Kr s then dL T H dst t s x else gU T H dst t s x)else if(T u).k.isInt then fU T H dst t s x else .fail
   | .cap,[x],[t]=>match r with
     |some (.cap lo c)=>iU T H t lo c x
     |_=>lP T H t x
   | .clear,[x],[t]=>jG T H t x
   | .copy,[d,s],[t,_]=>if Kr d then jH T H t d s else if Dg d then dV T H t d s else lN T H t d s
   | .min,l,_=>tG false l
   | .max,l,_=>tG true l
   | .delete,[m,k],[t,_]=>fZ T H t m k
   |_,_,_=>.fail
 |_=>.fail
section
open Go.RowKit
theorem aM{α:Type}(f:Nat->α)(i:Nat)(x:α):bU f i x i=x:=by simp[bU]
theorem bS{α:Type}(f:Nat->α){i j:Nat}(x:α)(h:j≠i):bU f i x j=f j:=by simp[bU,h]
section
variable{w:World} {E:Nat->Prop} {β:Nat->Option Nat} {H:Nat->aV}
theorem RD.one{x:DV}{v:Value}(h:RD w E x v)(hx:∀cs,x≠ .agg cs):v.oneCell'=true:=by
 cases h<;>first|rfl|(exact absurd rfl (hx _))|assumption
theorem tH{v:Value}(h:v.oneCell'=true):v.cells= #[v]:=by cases v<;>simp_all[Value.oneCell',Value.cells]
theorem Gd{x:DV}(hx:∀cs,x≠ .agg cs):aK x=[x]:=by cases x<;>first|rfl|exact absurd rfl (hx _)
theorem RD.cells{x:DV}{v:Value}(h:RD w E x v):v.cells.toList.length=(aK x).length/\∀(i:Nat) (c:DV) (u:Value),(aK x)[i]? =some c->v.cells.toList[i]? =some u->RD w E c u:=by
 by_cases hx:∃cs,x=.agg cs
 ·obtain⟨cs,rfl⟩:=hx;cases h with
  |agg cs vs hl _ h=>exact⟨by simpa [Value.cells,aK]using hl,λi c u hc hu=>h i c u hc (by simpa [Value.cells]using hu)⟩
 ·have hx':∀cs,x≠ .agg cs:=λcs e=>hx ⟨cs,e⟩;have ho:=h.one hx';rw[tH ho,Gd hx'];refine⟨rfl,λi c u hc hu=>?_⟩;cases i with
  |zero=>simp at hc hu;subst hc;subst hu;exact h
  |succ i=>simp at hc
theorem RD.cells1{x:DV}{v:Value}(h:RD w E x v):∀u∈v.cells.toList,u.oneCell'=true:=by
 by_cases hx:∃cs,x=.agg cs
 ·obtain⟨cs,rfl⟩:=hx;cases h with
  |agg cs vs hl h1 h=>intro u hu;exact h1 u (by simpa [Value.cells]using hu)
 ·have ho:=h.one λcs e=>hx ⟨cs,e⟩;rw[tH ho];intro u hu;simp at hu;subst hu;exact ho
theorem R.cells{x:LV}{v:Value}(hs:gO H x=true)(h:R w E β H x v):v.cells.toList.length=(cS x).length/\∀(i:Nat) (c:LV) (u:Value),(cS x)[i]? =some c->v.cells.toList[i]? =some u->R w E β H c u:=by
 have one:∀(x:LV) (v:Value),R w E β H x v->cS x=[x]->v.oneCell'=true->v.cells.toList.length=(cS x).length/\∀(i:Nat) (c:LV) (u:Value),(cS x)[i]? =some c->v.cells.toList[i]? =some u->R w E β H c u:=by
  intro x v h hx ho;rw[tH ho,hx];refine⟨rfl,λi c u hc hu=>?_⟩;cases i with
  |zero=>simp at hc hu;subst hc;subst hu;exact h
  |succ i=>simp at hc
 have h0:=h;cases h with
 |d x v h=>
  obtain⟨h1,h2⟩:=h.cells;have e:cS (.d x)=(aK x).map .d:=by cases x<;>rfl
  rw[e];refine⟨by simpa using h1,λi c u hc hu=>?_⟩;rw[List.getElem?_map]at hc;cases hd:(aK x)[i]? with
  |none=>simp[hd]at hc
  |some d=>simp[hd]at hc;subst hc;exact .d _ _ (h2 i d u hd hu)
 |agg cs vs hl _ h=>exact⟨by simpa [Value.cells,cS]using hl,λi c u hc hu=>h i c u hc (by simpa [Value.cells]using hu)⟩
 |bx id off b fz cs hH hb=>exact one _ _ h0 rfl rfl
 |bxdead id off v hH h1=>exact one _ _ h0 rfl h1
 |rp id k j b fz size xs hH hb=>exact one _ _ h0 rfl rfl
 |rpdead id k j v hH h1=>exact one _ _ h0 rfl h1
 |ow=>exact one _ _ h0 rfl rfl
 |ow0=>exact one _ _ h0 rfl rfl
 |owdead id k n v hH h1=>exact one _ _ h0 rfl h1
 |oc=>exact one _ _ h0 rfl rfl
 |ocdead id k n c v hH h1=>exact one _ _ h0 rfl h1
 |sb=>exact one _ _ h0 rfl rfl
 |sbdead id k n c v hH h1=>exact one _ _ h0 rfl h1
 |fn=>exact one _ _ h0 rfl rfl
 |bm=>exact one _ _ h0 rfl rfl
 |tup=>simp[gO]at hs
 |when=>simp[gO]at hs
 |nl=>exact one _ _ h0 rfl rfl
 |mp=>exact one _ _ h0 rfl rfl
 |mpdead id v hH h1=>exact one _ _ h0 rfl h1
 |it=>simp[gO]at hs
 |itdead=>simp[gO]at hs
 |junk=>simp[gO]at hs
theorem R.cells1{x:LV}{v:Value}(hs:gO H x=true)(h:R w E β H x v):∀u∈v.cells.toList,u.oneCell'=true:=by
 have one:∀v:Value,v.oneCell'=true->∀u∈v.cells.toList,u.oneCell'=true:=by
  intro v ho u hu;rw[tH ho]at hu;simp at hu;subst hu;exact ho
 cases h with
 |d x v h=>exact h.cells1
 |agg cs vs hl h1 h=>intro u hu;exact h1 u (by simpa [Value.cells]using hu)
 |bx id off b fz cs hH hb=>exact one _ rfl
 |bxdead id off v hH h1=>exact one _ h1
 |rp id k j b fz size xs hH hb=>exact one _ rfl
 |rpdead id k j v hH h1=>exact one _ h1
 |ow=>exact one _ rfl
 |ow0=>exact one _ rfl
 |owdead id k n v hH h1=>exact one _ h1
 |oc=>exact one _ rfl
 |ocdead id k n c v hH h1=>exact one _ h1
 |sb=>exact one _ rfl
 |sbdead id k n c v hH h1=>exact one _ h1
 |fn=>exact one _ rfl
 |bm=>exact one _ rfl
 |tup=>simp[gO]at hs
 |when=>simp[gO]at hs
 |nl=>exact one _ rfl
 |mp=>exact one _ rfl
 |mpdead id v hH h1=>exact one _ h1
 |it=>simp[gO]at hs
 |itdead=>simp[gO]at hs
 |junk=>simp[gO]at hs
theorem tI(s:ByteArray):(⟨s.data.toList.toArray⟩:ByteArray)=s:=by cases s;simp
theorem Kt(v:Value):R w E β H (De v) v:=by
 unfold De;split
 ·exact .d _ _ (.bool _)
 ·exact .d _ _ (.int _ _)
 ·rename_i s;have:=RD.str (w:=w) (E:=E) s.data.toList;rw[tI]at this;exact .d _ _ this
 ·exact .nl _
 ·exact .junk _
 ·exact .junk _
 ·rename_i h1 h2 h3 h4 h5 h6;refine .d _ _ (.val _ ?_);cases v<;>first|rfl|exact absurd rfl (h5 _)|exact absurd rfl (h6 _)
theorem R.const(v:Value):R w E β H (mE v) v:=by
 unfold mE;split
 ·exact .d _ _ (.bool _)
 ·exact .d _ _ (.int _ _)
 ·rename_i s;have:=RD.str (w:=w) (E:=E) s.data.toList;rw[tI]at this;exact .d _ _ this
 ·exact .nl _
 ·rename_i vs;split
  ·rename_i h;have e:vs=vs.toList.toArray:=by simp
   rw[e];refine .agg _ _ (by simp) (λu hu=>List.all_eq_true.1 h u (by simpa using hu)) λi c u hc hu=>?_;rw[List.getElem?_map]at hc;have hu':vs.toList[i]? =some u:=by simpa using hu
   cases q:vs.toList[i]? with
   |none=>rw[q]at hu';cases hu'
   |some u'=>
    rw[q]at hu';cases hu';simp only[List.toList_toArray]at hc;rw[q]at hc;cases hc;exact Kt _
  ·exact .junk _
 ·exact .junk _
 ·rename_i h1 h2 h3 h4 h5 h6;refine .d _ _ (.val _ ?_);cases v<;>first|rfl|exact absurd rfl (h5 _)|exact absurd rfl (h6 _)
theorem R.fn0(f:FuncId):R w E β H (.d (.fn f [])) (.func (.func f) #[] #[]):=.d _ _ (.fn f [] [] rfl (by simp))
theorem yH{α:Type}:∀(l:List (Option α)) (xs:List α),cC l=some xs->l=xs.map some
 |[],xs,h=>by simp[cC]at h;subst h;rfl
 |none::_,_,h=>by simp[cC]at h
 |some x::r,xs,h=>by
  simp only[cC,Option.map_eq_some_iff]at h;obtain⟨ys,h1,rfl⟩:=h;rw[yH r ys h1];rfl
theorem kS{α γ:Type}{f:α->Option γ}{l:List α}{xs:List γ}(h:cC (l.map f)=some xs):xs.length=l.length/\∀(i:Nat) (a:α) (x:γ),l[i]? =some a->xs[i]? =some x->f a=some x:=by
 have h1:=yH _ _ h;refine⟨by have:=congrArg List.length h1;simpa using this.symm,λi a x ha hx=>?_⟩;have:=congrArg (λl=>l[i]?) h1;simpa [ha,hx]using this
theorem Eo{size:Nat}{xs:List DV}(hs:∀x∈xs,(aK x).length=size)(k:Nat)(j:Nat)(hj:j<size):
 (bB xs)[k*size+j]? =(xs[k]?).bind λx=>(aK x)[j]? :=by
 induction xs generalizing k with
 |nil=>simp[bB]
 |cons x t ih=>
  have hx:=hs x (by simp);have ht:∀y∈t,(aK y).length=size:=λy hy=>hs y (by simp[hy]);simp only[bB,List.flatMap_cons];cases k with
  |zero=>
   rw[List.getElem?_append_left (by omega)];simp
  |succ k=>
   rw[List.getElem?_append_right (by rw[hx];have:size<=(k+1)*size:=Nat.le_mul_of_pos_left _ (by omega);omega)];have e:(k+1)*size+j-(aK x).length=k*size+j:=by rw[hx,Nat.add_mul];omega
   rw[e];simpa [bB]using ih ht k
theorem flat_len{size:Nat}{xs:List DV}(hs:∀x∈xs,(aK x).length=size):(bB xs).length=xs.length*size:=by
 induction xs with
 |nil=>simp[bB]
 |cons x t ih=>
  have:=ih λy hy=>hs y (by simp[hy]);simp only[bB,List.flatMap_cons,List.length_append,List.length_cons]at*;rw[this,hs x (by simp),Nat.add_mul];omega
theorem tJ{size:Nat}{xs:List DV}(hs:∀x∈xs,(aK x).length=size)(k:Nat):bB (xs.drop k)=(bB xs).drop (k*size):=by
 induction xs generalizing k with
 |nil=>simp[bB]
 |cons x t ih=>
  have hx:=hs x (by simp);cases k with
  |zero=>simp
  |succ k=>
   simp only[List.drop_succ_cons];rw[ih (λy hy=>hs y (by simp[hy]))];simp only[bB,List.flatMap_cons];rw[Nat.add_mul,Nat.one_mul,Nat.add_comm,<-List.drop_drop,<-hx,List.drop_left'];rfl
theorem iA{size:Nat}{xs:List DV}(hs:∀x∈xs,(aK x).length=size)(k:Nat):bB (xs.take k)=(bB xs).take (k*size):=by
 induction xs generalizing k with
 |nil=>simp[bB]
 |cons x t ih=>
  have hx:=hs x (by simp);cases k with
  |zero=>simp[bB]
  |succ k=>
   simp only[List.take_succ_cons,bB,List.flatMap_cons];have:=ih (λy hy=>hs y (by simp[hy])) k;simp only[bB]at this;rw[this,List.take_append,hx,Nat.add_mul,Nat.one_mul,Nat.add_sub_cancel,List.take_of_length_le (l:=aK x) (by rw[hx];exact Nat.le_add_left _ _)]
theorem gV(xs ys:List DV):bB (xs++ys)=bB xs++bB ys:=by simp[bB]
theorem Ao{size:Nat}{xs:List DV}(hs:∀x∈xs,(aK x).length=size)(k m:Nat):∀x∈(xs.drop k).take m,(aK x).length=size:=
 λx hx=>hs x (List.mem_of_mem_drop (List.mem_of_mem_take hx))
theorem Ep{E':Nat->Prop}(hobj:∀id,cP w E β H id)(hD:∀x v,RD w E x v->RD w E' x v){id k m c b size:Nat}{fz:Bool}{xs:List DV}(hH:H id=.row fz size xs)(hb:β id=some b)(hkn:k+m<=xs.length)(hn:m<=c)(hc:c<=maxLen)
 (ht:∀b,β id=some b->¬E' b)(hm:0<m):RD w E' (.sl ((xs.drop k).take m)) (.slice (some ⟨b,k*size,none⟩) m c):=by
 have ho:=hobj id;simp only[cP,hH]at ho;obtain⟨hsz,hall,ho⟩:=ho;rcases ho with⟨hn',_⟩|⟨b',e',cur',hb',hblk',hlen',hcs⟩
 ·rw[hn']at hb;cases hb
 ·rw[hb']at hb;injection hb with hb;subst hb
  have hin:((xs.drop k).take m).length=m:=by simp;omega
  have hne:(xs.drop k).take m≠[]:=by intro hh;rw[hh]at hin;simp at hin;omega
  have hall':=Ao hall k m;have hkm:k*size+m*size<=xs.length*size:=by rw[<-Nat.add_mul];exact Nat.mul_le_mul_right _ hkn
  have hcell:∀(j:Nat) (u:Value),((cur'.toList.drop (k*size)).take (m*size))[j]? =some u->w.cell? ⟨b',k*size+j,none⟩=some u:=by
   intro j u hu;rw[cell_of_row w b' _ cur' e' (0,0) hblk'];rw[List.getElem?_take]at hu;split at hu
   ·simpa using hu
   ·cases hu
  have hone:∀u∈(cur'.toList.drop (k*size)).take (m*size),u.oneCell'=true:=by
   intro u hu;obtain⟨i,hi,rfl⟩:=List.getElem_of_mem hu;simp only[List.getElem_take,List.getElem_drop];simp at hi;have hfl:=flat_len hall;exact(hcs (k*size+i) ((bB xs)[k*size+i]'(by omega)) _ (List.getElem?_eq_getElem _) (by simp)).1
  have hfin:=RD.sl (w:=w) (E:=E') ((xs.drop k).take m) b' (k*size) c size ((cur'.toList.drop (k*size)).take (m*size)) hne (ht b' hb') hall' (by omega) hc
   (by rw[hin];simp;omega) hone (Array.getElem?_eq_some_iff.1 hblk').1 hcell ?_
  ·rw[hin]at hfin;exact hfin
  ·intro i d v hd hv;rw[iA (λx hx=>hall x (List.mem_of_mem_drop hx)),tJ hall,List.getElem?_take]at hd;rw[List.getElem?_take]at hv;split at hd
   ·rename_i hi;rw[if_pos hi]at hv;simp only[List.getElem?_drop]at hd hv;exact hD _ _ (hcs _ d v hd (by simpa using hv)).2
   ·cases hd
theorem rV{E':Nat->Prop}(hobj:∀id,cP w E β H id)(hD:∀x v,RD w E x v->RD w E' x v):
 ∀(n:Nat) (l:LV) (x:DV) (v:Value),close H n l=some x->(∀id∈bJ H n l,∀b,β id=some b->¬E' b)->R w E β H l v->RD w E' x v:=by
 intro n;induction n with
 |zero=>intro l x v h;simp[close]at h
 |succ n ih=>
  intro l x v h ht hr;have list:∀(cs:List LV) (xs:List DV) (vs:List Value),cC (cs.map (close H n))=some xs->(∀id∈cs.flatMap (bJ H n),∀b,β id=some b->¬E' b)->vs.length=cs.length->
   (∀(i:Nat) (c:LV) (v:Value),cs[i]? =some c->vs[i]? =some v->R w E β H c v)->vs.length=xs.length/\∀(i:Nat) (c:DV) (v:Value),xs[i]? =some c->vs[i]? =some v->RD w E' c v:=by
   intro cs xs vs h ht hl hp;obtain⟨h1,h2⟩:=kS h;refine⟨by omega,λi c v hc hv=>?_⟩;have hi:i<cs.length:=by have:=(List.getElem?_eq_some_iff.1 hc).1;omega
   have hci:=List.getElem?_eq_getElem hi;exact ih _ _ _ (h2 i _ c hci hc) (λid hid b hb=>ht id (List.mem_flatMap.2 ⟨_,List.getElem_mem hi,hid⟩) b hb) (hp i _ v hci hv)
  cases l with
  |d y=>simp only[close,Option.some.injEq]at h;subst h;cases hr with|d _ _ h=>exact hD _ _ h
  |agg cs=>
   simp only[close,Option.map_eq_some_iff]at h;obtain⟨xs,h,rfl⟩:=h;cases hr with
   |agg _ vs hl ho hp=>
    obtain⟨h1,h2⟩:=list cs xs vs h (by simpa [bJ]using ht) hl hp;exact .agg xs vs h1 ho h2
  |ow id k m=>
   simp only[close]at h;cases hH:H id with
   |row fz size xs=>
    simp only[hH,Option.some.injEq]at h;subst h;cases hr with
    |ow _ _ _ b c fz' size' xs' cur e hH' hb hkn hn hc hblk hroom=>
     rw[hH]at hH';injection hH' with _ e1 e2
     subst e1;subst e2;rcases Nat.eq_zero_or_pos m with hm|hm
     ·subst hm;simpa using RD.sl0 (w:=w) (E:=E') _ c hc
     ·exact Ep hobj hD hH hb hkn hn hc (λb hb=>ht id (by simp[bJ]) b hb) hm
    |ow0 _ _ a fz' size' xs' hH'=>simpa using RD.sl0 (w:=w) (E:=E') a 0 (by unfold maxLen;omega)
    |owdead _ _ _ _ hH'=>rw[hH]at hH';cases hH'
   |_=>simp[hH]at h
  |sb=>simp[close]at h
  |oc id k m c=>
   simp only[close]at h;cases hH:H id with
   |row fz size xs=>
    simp only[hH,Option.some.injEq]at h;subst h;cases hr with
    |oc _ _ _ _ a fz' size' xs' hH' hn hkc hc ha=>
     rw[hH]at hH';injection hH' with _ e1 e2
     subst e1;subst e2;rcases Nat.eq_zero_or_pos m with hm|hm
     ·subst hm;simpa using RD.sl0 (w:=w) (E:=E') a c hc
     ·rcases ha with ha|⟨b,hb,rfl⟩
      ·omega
      ·exact Ep hobj hD hH hb (by omega) hn hc (λb hb=>ht id (by simp[bJ]) b hb) hm
    |ocdead _ _ _ _ _ hH'=>rw[hH]at hH';cases hH'
   |_=>simp[hH]at h
  |bx id off=>
   simp only[close]at h;cases hH:H id with
   |box fz cs=>
    simp only[hH,Option.map_eq_some_iff]at h;obtain⟨xs,h,rfl⟩:=h;have ho:=hobj id;simp only[cP,hH]at ho;obtain⟨b,e,us,hb,hblk,hlen,ho1,hp⟩:=ho;simp only[bJ,hH,List.mem_cons]at ht;cases hr with
    |bx _ _ b' _ _ _ hb'=>
     rw[hb]at hb';injection hb' with hb';subst hb'
     obtain⟨h1,h2⟩:=list (cs.drop off) xs (us.drop off) h (λid' hid b hb=>ht id' (.inr hid) b hb) (by simp;omega) (λi c v hc hv=>by
      simp only[List.getElem?_drop]at hc hv;exact hp _ c v hc hv)
     refine .ro xs b off (us.drop off) (ht id (.inl rfl) b hb) h1 (λu hu=>ho1 u (List.mem_of_mem_drop hu)) (Array.getElem?_eq_some_iff.1 hblk).1 (λj u hu=>?_) h2;rw[cell_of_row w b _ us.toArray e (0,0) hblk];simpa using hu
    |bxdead _ _ _ hH'=>rw[hH]at hH';cases hH'
   |_=>simp[hH]at h
  |fn f cs=>
   simp only[close,Option.map_eq_some_iff]at h;obtain⟨xs,h,rfl⟩:=h;cases hr with
   |fn _ _ vs hl hp=>
    obtain⟨h1,h2⟩:=list cs xs vs h (by simpa [bJ]using ht) hl hp;exact .fn f xs vs h1 h2
  |bm f cs=>
   simp only[close,Option.map_eq_some_iff]at h;obtain⟨xs,h,rfl⟩:=h;cases hr with
   |bm _ _ vs hl hp=>
    obtain⟨h1,h2⟩:=list cs xs vs h (by simpa [bJ]using ht) hl hp;exact .bm f xs vs h1 h2
  |nl=>simp only[close,Option.some.injEq]at h;subst h;cases hr with|nl a=>exact .sl0 a 0 (by unfold maxLen;omega)
  |mp id=>
   simp only[close]at h;cases hH:H id with
   |map fz ks vs=>
    simp only[hH,Option.some.injEq]at h;subst h;have ho:=hobj id;simp only[cP,hH]at ho;obtain⟨b,arr,clock,hb,hblk,hk,hl,hborn,h1,h2⟩:=ho;cases hr with
    |mp _ b' _ _ _ _ hb'=>
     rw[hb]at hb';injection hb' with hb';subst hb'
     exact .mp ks vs b clock arr (ht id (by simp[bJ]) b hb) (Array.getElem?_eq_some_iff.1 hblk).1 hblk hk hl hborn (λi d e hd he=>hD _ _ (h1 i d e hd he)) (λi d e hd he=>hD _ _ (h2 i d e hd he))
    |mpdead _ _ hH'=>rw[hH]at hH';cases hH'
   |_=>simp[hH]at h
  |rp|it|tup|when|junk=>simp[close]at h
end
end
section
open Go.RowKit
structure eY(X:Nat->Prop)(H:Nat->aV)(β:Nat->Option Nat)(w:World)(H':Nat->aV)(β':Nat->Option Nat)(w':World):Prop where
 size:w.heap.size<=w'.heap.size
 blk:∀k,k<w.heap.size->¬Ex X β H k->w'.heap[k]? =w.heap[k]?
 sub:∀k,k<w.heap.size->Ex X β' H' k->Ex X β H k
 pass:∀id,bL w β H w' β' H' id
section
variable{w0:cX} {X:Nat->Prop} {H H' H'':Nat->aV} {β β' β'':Nat->Option Nat} {w w' w'':World}
theorem oX.mem{N:Nat}{env:Nat->LV}{a:Act}(h:oX N w0 X env H β a w):cV w0 X H β w:=⟨h.ext,h.xold,h.fresh,h.inj,h.obj,h.pin⟩
theorem eY.D(g:eY X H β w H' β' w'){x:DV}{v:Value}(h:RD w (Ex X β H) x v):RD w' (Ex X β' H') x v:=h.step g.blk g.size g.sub
theorem eY.R(g:eY X H β w H' β' w'){x:LV}{v:Value}(h:R w (Ex X β H) β H x v):R w' (Ex X β' H') β' H' x v:=h.step (λ_ _=>g.D) g.pass
theorem bL.refl(id:Nat):bL w β H w β H id:=by
 unfold bL;cases h:H id with
 |absent=>trivial
 |dead=>rfl
 |box fz cs=>exact .inr ⟨⟨fz,cs,rfl⟩,rfl⟩
 |row fz s xs=>exact .inr ⟨⟨fz,xs,rfl,Nat.le_refl _⟩,rfl,λb cur e _ hb=>⟨cur,e,hb,rfl⟩⟩
 |map fz ks vs=>exact .inr ⟨⟨fz,ks,vs,rfl⟩,rfl⟩
 |iter fz ks vs=>exact .inr ⟨⟨fz,ks,vs,rfl⟩,rfl⟩
 |know x v=>trivial
theorem bL.trans{id:Nat}(h:bL w β H w' β' H' id)(k:bL w' β' H' w'' β'' H'' id):bL w β H w'' β'' H'' id:=by
 unfold bL at*;cases e:H id with
 |absent=>trivial
 |dead=>simp only[e]at h;simpa only[h]using k
 |box fz cs=>
  simp only[e]at h;rcases h with h|⟨⟨fz',cs',h⟩,hb⟩
  ·simp only[h]at k;exact .inl k
  ·simp only[h]at k;rcases k with k|⟨k,kb⟩
   ·exact .inl k
   ·exact .inr ⟨k,kb.trans hb⟩
 |row fz s xs=>
  simp only[e]at h;rcases h with h|⟨⟨fz',xs',h,hl⟩,hb,hh⟩
  ·simp only[h]at k;exact .inl k
  ·simp only[h]at k;rcases k with k|⟨⟨fz2,xs2,k,kl⟩,kb,kh⟩
   ·exact .inl k
   ·refine .inr ⟨⟨fz2,xs2,k,Nat.le_trans hl kl⟩,kb.trans hb,λb cur t hbb hblk=>?_⟩;obtain⟨cur',t',h1,h2⟩:=hh b cur t hbb hblk;obtain⟨cur2,t2,h3,h4⟩:=kh b cur' t' (hb.trans hbb) h1;exact⟨cur2,t2,h3,h4.trans h2⟩
 |map fz ks vs=>
  simp only[e]at h;rcases h with h|⟨⟨fz',ks',vs',h⟩,hb⟩
  ·simp only[h]at k;exact .inl k
  ·simp only[h]at k;rcases k with k|⟨k,kb⟩
   ·exact .inl k
   ·exact .inr ⟨k,kb.trans hb⟩
 |iter fz ks vs=>
  simp only[e]at h;rcases h with h|⟨⟨fz',ks',vs',h⟩,hb⟩
  ·simp only[h]at k;exact .inl k
  ·simp only[h]at k;rcases k with k|⟨k,kb⟩
   ·exact .inl k
   ·exact .inr ⟨k,kb.trans hb⟩
 |know x v=>trivial
theorem eY.refl:eY X H β w H β w:=⟨Nat.le_refl _,λ_ _ _=>rfl,λ_ _ h=>h,λid=>bL.refl id⟩
theorem eY.trans(g:eY X H β w H' β' w')(k:eY X H' β' w' H'' β'' w''):eY X H β w H'' β'' w'':=
 ⟨Nat.le_trans g.size k.size,λb hb he=>(k.blk b (Nat.lt_of_lt_of_le hb g.size) (λh=>he (g.sub b hb h))).trans (g.blk b hb he),
   λb hb he=>g.sub b hb (k.sub b (Nat.lt_of_lt_of_le hb g.size) he),λid=>(g.pass id).trans (k.pass id)⟩
theorem cP.step{E E':Nat->Prop}{id:Nat}(hsz:w.heap.size<=w'.heap.size)(hEb:∀k,k<w.heap.size->¬E k->w'.heap[k]? =w.heap[k]?/\¬E' k)(hD:∀x v,RD w E x v->RD w' E' x v)(hR:∀l v,R w E β H l v->R w' E' β' H' l v)(hH:H' id=H id)
 (hb:(H id).live=true->β' id=β id)(hblk:∀b,(H id).live=true->β id=some b->w'.heap[b]? =w.heap[b]?)(h:cP w E β H id):cP w' E' β' H' id:=by
 unfold cP at*;rw[hH];cases e:H id with
 |absent=>trivial
 |dead=>trivial
 |box fz cs=>
  simp only[e,aV.live,forall_const]at h hb hblk|-;obtain⟨b,t,us,h1,h2,h3,ho,h4⟩:=h;exact⟨b,t,us,(hb).trans h1,(hblk b h1).trans h2,h3,ho,λi c v hc hv=>hR _ _ (h4 i c v hc hv)⟩
 |row fz s xs=>
  simp only[e,aV.live,forall_const]at h hb hblk|-;obtain⟨h0,h1,h2⟩:=h;refine⟨h0,h1,?_⟩;rcases h2 with⟨h2,h3⟩|⟨b,t,cur,h2,h3,h4,h5⟩
  ·exact .inl ⟨hb.trans h2,h3⟩
  ·exact .inr ⟨b,t,cur,hb.trans h2,(hblk b h2).trans h3,h4,λi d v hd hv=>⟨(h5 i d v hd hv).1,hD _ _ (h5 i d v hd hv).2⟩⟩
 |map fz ks vs=>
  simp only[e,aV.live,forall_const]at h hb hblk|-;obtain⟨b,arr,clock,h1,h2,h3,h4,h5,h6,h7⟩:=h;exact⟨b,arr,clock,hb.trans h1,(hblk b h1).trans h2,h3,h4,h5,λi d e hd he=>hD _ _ (h6 i d e hd he),λi d e hd he=>hD _ _ (h7 i d e hd he)⟩
 |iter fz ks vs=>
  simp only[e,aV.live,forall_const]at h hb hblk|-;obtain⟨b,bm,arr,clock,seen,last,h1,h2,h3,h4,h5,h6,h7,h8,h9,h10,h11⟩:=h;exact⟨b,bm,arr,clock,seen,last,hb.trans h1,(hblk b h1).trans h2,(hEb bm h4 h3).2,Nat.lt_of_lt_of_le h4 hsz,(hEb bm h4 h3).1.trans h5,h6,h7,h8,h9,λi d e hd he=>hD _ _ (h10 i d e hd he),λi d e hd he=>hD _ _ (h11 i d e hd he)⟩
 |know x v=>
  simp only[e]at h|-;exact hR _ _ h
theorem eY.out(g:eY X H β w H' β' w'):∀k,k<w.heap.size->¬Ex X β H k->w'.heap[k]? =w.heap[k]?/\¬Ex X β' H' k:=λk hk he=>⟨g.blk k hk he,λh=>he (g.sub k hk h)⟩
theorem eY.marks(g:eY X H β w H' β' w'){B:cX}{l:List Deferred}(h:Ce B w (Ex X β H) l):Ce B w' (Ex X β' H') l:=
 let⟨Ds,h0,h1,h2,h3⟩:=h
 ⟨Ds,h0,h1,h2,λD hD=>let⟨q0,q1,q2⟩:=h3 D hD;let r:=g.out D (Array.getElem?_eq_some_iff.1 q2).1 q1;⟨q0,r.2,r.1.trans q2⟩⟩
theorem yI(o:aV):(frozen o).live=o.live:=by cases o<;>rfl
theorem Ap(o:aV):(frozen o).mut=false:=by cases o<;>rfl
theorem eF(H:Nat->aV)(ids:List Nat)(id:Nat):bP H (bF H ids) id=if id∈ids then frozen (H id)else H id:=by
 induction ids with
 |nil=>simp[bF,bP]
 |cons i t ih=>
  simp only[bF,List.map_cons,bP]at*;by_cases h:id=i
  ·simp[h]
  ·simp only[h,if_false,List.mem_cons,false_or];exact ih
theorem cV.freeze(m:cV w0 X H β w)(ids:List Nat):cV w0 X (bP H (bF H ids)) β w/\eY X H β w (bP H (bF H ids)) β w:=by
 have hid:=eF H ids;have hlive:∀id,(bP H (bF H ids) id).live=(H id).live:=λid=>by rw[hid];split<;>simp[yI]
 have hmut:∀id,(bP H (bF H ids) id).mut=true->(H id).mut=true:=λid h=>by
  rw[hid]at h;split at h
  ·rw[Ap]at h;cases h
  ·exact h
 have g:eY X H β w (bP H (bF H ids)) β w:=by
  refine⟨Nat.le_refl _,λ_ _ _=>rfl,λk _ hk=>?_,λid=>?_⟩
  ·rcases hk with hk|⟨id,h1,h2⟩
   ·exact .inl hk
   ·exact .inr ⟨id,hmut id h1,h2⟩
  ·have hp:=bL.refl (w:=w) (β:=β) (H:=H) id;by_cases hin:id∈ids
   ·unfold bL at*;rw[hid,if_pos hin];cases e:H id with
    |absent=>trivial
    |dead=>rfl
    |box fz cs=>exact .inr ⟨⟨true,cs,rfl⟩,rfl⟩
    |row fz s xs=>exact .inr ⟨⟨true,xs,rfl,Nat.le_refl _⟩,rfl,λb cur e _ hb=>⟨cur,e,hb,rfl⟩⟩
    |map fz ks vs=>exact .inr ⟨⟨true,ks,vs,rfl⟩,rfl⟩
    |iter fz ks vs=>exact .inr ⟨⟨true,ks,vs,rfl⟩,rfl⟩
    |know x v=>trivial
   ·unfold bL at*;rw[hid,if_neg hin];exact hp
 refine⟨⟨m.ext,m.xold,λid b hl hb=>(m.fresh id b (by rw[<-hlive];exact hl) hb).imp (Or.imp (λh=>h) λh=>⟨h.1,λhm=>h.2 (hmut _ hm)⟩) (λh=>h),λi j b hi hj=>m.inj i j b (by rw[<-hlive];exact hi) (by rw[<-hlive];exact hj),λid=>?_,λid hid=>(m.pin id hid).trans (g.pass id)⟩,g⟩;by_cases hin:id∈ids
 ·have ho:=m.obj id;unfold cP at*;rw[hid,if_pos hin];cases e:H id with
  |absent=>trivial
  |dead=>trivial
  |box fz cs=>
   simp only[e,frozen]at ho|-;obtain⟨b,t,us,h1,h2,h3,h0,h4⟩:=ho;exact⟨b,t,us,h1,h2,h3,h0,λi c v hc hv=>g.R (h4 i c v hc hv)⟩
  |row fz s xs=>
   simp only[e,frozen]at ho|-;obtain⟨h0,h1,h2⟩:=ho;refine⟨h0,h1,?_⟩;rcases h2 with h2|⟨b,t,cur,h2,h3,h4,h5⟩
   ·exact .inl h2
   ·exact .inr ⟨b,t,cur,h2,h3,h4,λi d v hd hv=>⟨(h5 i d v hd hv).1,g.D (h5 i d v hd hv).2⟩⟩
  |map fz ks vs=>
   simp only[e,frozen]at ho|-;obtain⟨b,arr,clock,h1,h2,h3,h4,h5,h6,h7⟩:=ho;exact⟨b,arr,clock,h1,h2,h3,h4,h5,λi d e hd he=>g.D (h6 i d e hd he),λi d e hd he=>g.D (h7 i d e hd he)⟩
  |iter fz ks vs=>
   simp only[e,frozen]at ho|-;obtain⟨b,bm,arr,clock,seen,last,h1,h2,h3,h4,h5,h6,h7,h8,h9,h10,h11⟩:=ho;exact⟨b,bm,arr,clock,seen,last,h1,h2,(g.out bm h4 h3).2,h4,h5,h6,h7,h8,h9,λi d e hd he=>g.D (h10 i d e hd he),λi d e hd he=>g.D (h11 i d e hd he)⟩
  |know x v=>
   simp only[e,frozen]at ho|-;exact g.R ho
 ·exact(m.obj id).step g.size g.out (λ_ _=>g.D) (λ_ _=>g.R) (by rw[hid,if_neg hin]) (λ_=>rfl) (λ_ _ _=>rfl)
theorem Ex.lt(m:cV w0 X H β w){k:Nat}(h:Ex X β H k):k<w.heap.size:=by
 rcases h with h|⟨id,h1,h2⟩
 ·exact Nat.lt_of_lt_of_le (m.xold.1 k h).1 m.ext.size
 ·exact(m.fresh id k (bV h1) h2).2
theorem cV.globL(m:cV w0 X H β w):zM w λk=>X k\/∃id,(H id).live=true/\β id=some k:=
 m.xold.2.step (λk hk hn=>m.ext.block k hk λ⟨id,h1,h2,h3⟩=>hn (.inr ⟨id,h1,bV h2,h3⟩)) m.ext.size λk hk he=>by
  rcases he with h|⟨id,h1,h2⟩
  ·exact .inl h
  ·rcases(m.fresh id k h1 h2).1 with h|h
   ·omega
   ·exact .inr h.1
theorem cV.glob(m:cV w0 X H β w):zM w (Ex X β H):=m.globL.anti λk h=>by
 rcases h with h|⟨id,h1,h2⟩
 ·exact .inl h
 ·exact .inr ⟨id,bV h1,h2⟩
theorem cV.grow(m:cV w0 X H β w)(hb:BP w.heap.size w w'):cV w0 X H β w'/\eY X H β w H β w':=by
 have hg:eY X H β w H β w':=by
  refine⟨hb.size,λk hk _=>hb.block k hk,λ_ _ h=>h,λid=>?_⟩;have hp:=bL.refl (w:=w) (β:=β) (H:=H) id;have ho:=m.obj id;unfold bL at*;cases e:H id with
  |absent=>trivial
  |dead=>rfl
  |box fz cs=>simpa only[e]using hp
  |row fz s xs=>
   refine .inr ⟨⟨fz,xs,rfl,Nat.le_refl _⟩,rfl,λb cur t _ hbb=>⟨cur,t,?_,rfl⟩⟩;rw[hb.block b (Array.getElem?_eq_some_iff.1 hbb).1];exact hbb
  |map fz ks vs=>simpa only[e]using hp
  |iter fz ks vs=>simpa only[e]using hp
  |know x v=>trivial
 refine⟨⟨m.ext.of_below hb,m.xold,λid b hl hbb=>?_,m.inj,λid=>?_,λid hid=>(m.pin id hid).trans (hg.pass id)⟩,hg⟩
 ·have:=m.fresh id b hl hbb;exact⟨this.1,Nat.lt_of_lt_of_le this.2 hb.size⟩
 ·exact(m.obj id).step hg.size hg.out (λ_ _=>hg.D) (λ_ _=>hg.R) rfl (λ_=>rfl) λb hl hbb=>hb.block b (m.fresh id b hl hbb).2
theorem cV.newObj(m:cV w0 X H β w)(hb:BP w.heap.size w w'){d:Nat}(hd:H d=.absent){o:aV}(B:Option Nat)
 (hB:∀b,B=some b->w.heap.size<=b/\b<w'.heap.size)
 (ho:(∀x v,RD w (Ex X β H) x v->RD w' (Ex X (bU β d B) (bU H d o)) x v)->(∀l v,R w (Ex X β H) β H l v->R w' (Ex X (bU β d B) (bU H d o)) (bU β d B) (bU H d o) l v)->
   cP w' (Ex X (bU β d B) (bU H d o)) (bU β d B) (bU H d o) d):
 cV w0 X (bU H d o) (bU β d B) w'/\eY X H β w (bU H d o) (bU β d B) w':=by
 have hnd:∀id,(H id).live=true->id≠d:=λid hl e=>by rw[e,hd]at hl;cases hl
 have hg:eY X H β w (bU H d o) (bU β d B) w':=by
  refine⟨hb.size,λk hk _=>hb.block k hk,λk hk he=>?_,λid=>?_⟩
  ·rcases he with he|⟨id,h1,h2⟩
   ·exact .inl he
   ·by_cases hi:id=d
    ·subst hi;rw[aM]at h2;have:=(hB k h2).1;omega
    ·rw[bS _ _ hi]at h1 h2;exact .inr ⟨id,h1,h2⟩
  ·by_cases hi:id=d
   ·subst hi;unfold bL;rw[hd];trivial
   ·have hp:=(m.grow hb).2.pass id;unfold bL at*;rw[bS _ _ hi,bS _ _ hi];exact hp
 refine⟨⟨m.ext.of_below hb,m.xold,λid b hl hbb=>?_,λi j b hi hj h1 h2=>?_,λid=>?_,λid hid=>(m.pin id hid).trans (hg.pass id)⟩,hg⟩
 ·by_cases hi:id=d
  ·subst hi;rw[aM]at hbb;have h1:=hB b hbb;exact⟨.inl (Nat.le_trans m.ext.size h1.1),h1.2⟩
  ·rw[bS _ _ hi]at hl hbb|-;have:=m.fresh id b hl hbb;exact⟨this.1,Nat.lt_of_lt_of_le this.2 hb.size⟩
 ·by_cases ei:i=d<;>by_cases ej:j=d
  ·rw[ei,ej]
  ·subst ei;rw[aM]at h1;rw[bS _ _ ej]at hj h2;have:=hB b h1;have:=(m.fresh j b hj h2).2;omega
  ·subst ej;rw[aM]at h2;rw[bS _ _ ei]at hi h1;have:=hB b h2;have:=(m.fresh i b hi h1).2;omega
  ·rw[bS _ _ ei]at hi h1;rw[bS _ _ ej]at hj h2;exact m.inj i j b hi hj h1 h2
 ·by_cases hi:id=d
  ·subst hi;exact ho (λ_ _=>hg.D) (λ_ _=>hg.R)
  ·exact(m.obj id).step hg.size hg.out (λ_ _=>hg.D) (λ_ _=>hg.R) (bS _ _ hi) (λ_=>bS _ _ hi) λb hl hbb=>hb.block b (m.fresh id b hl hbb).2
theorem cV.kill(m:cV w0 X H β w)(d:Nat)(hd:(H d).live=true):cV w0 X (bU H d .dead) β w/\eY X H β w (bU H d .dead) β w:=by
 have hg:eY X H β w (bU H d .dead) β w:=by
  refine⟨Nat.le_refl _,λ_ _ _=>rfl,λk _ he=>?_,λid=>?_⟩
  ·rcases he with he|⟨id,h1,h2⟩
   ·exact .inl he
   ·by_cases hi:id=d
    ·subst hi;rw[aM]at h1;cases h1
    ·rw[bS _ _ hi]at h1;exact .inr ⟨id,h1,h2⟩
  ·by_cases hi:id=d
   ·subst hi;unfold bL;cases e:H id<;>simp_all[aM,aV.live]
   ·have hp:=bL.refl (w:=w) (β:=β) (H:=H) id;unfold bL at*;rw[bS _ _ hi];exact hp
 refine⟨⟨m.ext,m.xold,λid b hl hbb=>?_,λi j b hi hj=>?_,λid=>?_,λid hid=>(m.pin id hid).trans (hg.pass id)⟩,hg⟩
 ·by_cases hi:id=d
  ·subst hi;rw[aM]at hl;cases hl
  ·rw[bS _ _ hi]at hl|-;exact m.fresh id b hl hbb
 ·by_cases ei:i=d
  ·subst ei;rw[aM]at hi;cases hi
  ·by_cases ej:j=d
   ·subst ej;rw[aM]at hj;cases hj
   ·rw[bS _ _ ei]at hi;rw[bS _ _ ej]at hj;exact m.inj i j b hi hj
 ·by_cases hi:id=d
  ·subst hi;unfold cP;rw[aM];trivial
  ·exact(m.obj id).step hg.size hg.out (λ_ _=>hg.D) (λ_ _=>hg.R) (bS _ _ hi) (λ_=>rfl) λ_ _ _=>rfl
theorem cV.moveObj(m:cV w0 X H β w){id d:Nat}{s:Nat}{xs:List DV}(n:Nat)(hid:H id=.row false s xs)(hd:H d=.absent):
 cV w0 X (bU (bU H id .dead) d (.row false s (xs.take n))) (bU β d (β id)) w/\eY X H β w (bU (bU H id .dead) d (.row false s (xs.take n))) (bU β d (β id)) w:=by
 have hne:id≠d:=λe=>by rw[e,hd]at hid;cases hid
 have hg:eY X H β w (bU (bU H id .dead) d (.row false s (xs.take n))) (bU β d (β id)) w:=by
  refine⟨Nat.le_refl _,λ_ _ _=>rfl,λk _ he=>?_,λi=>?_⟩
  ·rcases he with he|⟨i,h1,h2⟩
   ·exact .inl he
   ·by_cases hi:i=d
    ·subst hi;rw[aM]at h2;exact .inr ⟨id,by rw[hid];rfl,h2⟩
    ·rw[bS _ _ hi]at h1 h2;by_cases hi2:i=id
     ·subst hi2;rw[aM]at h1;cases h1
     ·rw[bS _ _ hi2]at h1;exact .inr ⟨i,h1,h2⟩
  ·by_cases hi:i=d
   ·subst hi;unfold bL;rw[hd];trivial
   ·by_cases hi2:i=id
    ·subst hi2;unfold bL;rw[hid,bS _ _ hi,aM];exact .inl rfl
    ·have hp:=bL.refl (w:=w) (β:=β) (H:=H) i;unfold bL at*;rw[bS _ _ hi,bS _ _ hi2,bS _ _ hi];exact hp
 have live:∀i,i≠d->(bU (bU H id .dead) d (.row false s (xs.take n)) i).live=true->i≠id/\(H i).live=true:=λi hi hl=>by
  rw[bS _ _ hi]at hl;by_cases hi2:i=id
  ·subst hi2;rw[aM]at hl;cases hl
  ·rw[bS _ _ hi2]at hl;exact⟨hi2,hl⟩
 have hlid:(H id).live=true:=by rw[hid];rfl
 refine⟨⟨m.ext,m.xold,λi b hl hbb=>?_,λi j b hi hj h1 h2=>?_,λi=>?_,λid hid=>(m.pin id hid).trans (hg.pass id)⟩,hg⟩
 ·by_cases hi:i=d
  ·subst hi;rw[aM]at hbb;exact(m.fresh id b hlid hbb).imp (Or.imp (λh=>h) λh=>⟨h.1,λ_=>h.2 (by rw[hid];rfl)⟩) (λh=>h)
  ·rw[bS _ _ hi]at hbb;refine(m.fresh i b (live i hi hl).2 hbb).imp (Or.imp (λh=>h) λh=>⟨h.1,λhm=>h.2 ?_⟩) (λh=>h);rw[bS _ _ hi,bS _ _ (live i hi hl).1]at hm;exact hm
 ·by_cases ei:i=d<;>by_cases ej:j=d
  ·rw[ei,ej]
  ·subst ei;rw[aM]at h1;rw[bS _ _ ej]at h2;obtain⟨e1,e2⟩:=live j ej hj;exact absurd (m.inj id j b hlid e2 h1 h2).symm e1
  ·subst ej;rw[aM]at h2;rw[bS _ _ ei]at h1;obtain⟨e1,e2⟩:=live i ei hi;exact absurd (m.inj i id b e2 hlid h1 h2) e1
  ·rw[bS _ _ ei]at h1;rw[bS _ _ ej]at h2;exact m.inj i j b (live i ei hi).2 (live j ej hj).2 h1 h2
 ·by_cases hi:i=d
  ·subst hi;have ho:=m.obj id;unfold cP at*;rw[hid]at ho;rw[aM];simp only[]at ho|-;obtain⟨h0,h1,h2⟩:=ho;have hle:(xs.take n).length<=xs.length:=by simp;omega
   refine⟨h0,λx hx=>h1 x (List.mem_of_mem_take hx),?_⟩;rcases h2 with⟨h2,h3⟩|⟨b,t,cur,h2,h3,h4,h5⟩
   ·exact .inl ⟨by rw[aM];exact h2,by simp[h3]⟩
   ·refine .inr ⟨b,t,cur,by rw[aM];exact h2,h3,Nat.le_trans (Nat.mul_le_mul_right _ hle) h4,λk dd v hdd hv=>?_⟩;rw[iA h1,List.getElem?_take]at hdd;split at hdd
    ·exact⟨(h5 k dd v hdd hv).1,hg.D (h5 k dd v hdd hv).2⟩
    ·cases hdd
  ·by_cases hi2:i=id
   ·subst hi2;unfold cP;rw[bS _ _ hi,aM];trivial
   ·exact(m.obj i).step hg.size hg.out (λ_ _=>hg.D) (λ_ _=>hg.R) (by rw[bS _ _ hi,bS _ _ hi2]) (λ_=>bS _ _ hi) λ_ _ _=>rfl
theorem cV.rewriteH{H0:Nat->aV}{β0:Nat->Option Nat}{w00:World}(m:cV w0 X H β w)(m0:cV w0 X H0 β0 w00)(g0:eY X H0 β0 w00 H β w){id b:Nat}{o':aV}(hm:(H id).mut=true)(hb:β id=some b){w':World}(hos:w'.os=w.os)(htape:w'.tape=w.tape)(hout:w'.output=w.output)(hdr:w.drawn<=w'.drawn)(hsize:w'.heap.size=w.heap.size)(hother:∀k,k≠b->w'.heap[k]? =w.heap[k]?)
 (hpass:bL w00 β0 H0 w' β (bU H id o') id)
 (hpl:bL w β H w' β (bU H id o') id)
 (ho:(∀x v,RD w (Ex X β H) x v->RD w' (Ex X β (bU H id o')) x v)->(∀l v,R w (Ex X β H) β H l v->R w' (Ex X β (bU H id o')) β (bU H id o') l v)->
   cP w' (Ex X β (bU H id o')) β (bU H id o') id):
 cV w0 X (bU H id o') β w'/\eY X H0 β0 w00 (bU H id o') β w':=by
 have hlive:=bV hm;have hmut:∀i,(bU H id o' i).mut=true->(H i).mut=true:=λi h=>by
  by_cases hi:i=id
  ·subst hi;exact hm
  ·rw[bS _ _ hi]at h;exact h
 have hlv:∀i,(bU H id o' i).live=true->(H i).live=true:=λi h=>by
  by_cases hi:i=id
  ·subst hi;exact hlive
  ·rw[bS _ _ hi]at h;exact h
 have hsub:∀k,Ex X β (bU H id o') k->Ex X β H k:=λk he=>by
  rcases he with he|⟨i,h1,h2⟩
  ·exact .inl he
  ·exact .inr ⟨i,hmut i h1,h2⟩
 have hblk':∀k,¬Ex X β H k->w'.heap[k]? =w.heap[k]? :=λk he=>hother k (λe=>he (.inr ⟨id,hm,by rw[e];exact hb⟩));have hD:∀x v,RD w (Ex X β H) x v->RD w' (Ex X β (bU H id o')) x v:=λx v h=>h.step (λk _ he=>hblk' k he) (by rw[hsize];exact Nat.le_refl _) (λk _ he=>hsub k he);have hpo:∀i,i≠id->bL w β H w' β (bU H id o') i:=λi hi=>by
  have hp:=bL.refl (w:=w) (β:=β) (H:=H) i;unfold bL at*;rw[bS _ _ hi];cases eH:H i with
  |absent=>trivial
  |dead=>rfl
  |box fz cs=>simpa only[eH]using hp
  |row fz s xs=>
   refine .inr ⟨⟨fz,xs,rfl,Nat.le_refl _⟩,rfl,λb' c t hbb hblk'=>⟨c,t,?_,rfl⟩⟩;rw[hother b' (λe=>?_)]
   ·exact hblk'
   ·subst e;exact hi (m.inj i id b' (by rw[eH];rfl) hlive hbb hb)
  |map fz ks vs=>simpa only[eH]using hp
  |iter fz ks vs=>simpa only[eH]using hp
  |know x v=>trivial
 have hR:∀l v,R w (Ex X β H) β H l v->R w' (Ex X β (bU H id o')) β (bU H id o') l v:=λl v h=>h.step hD λi=>by
  by_cases hi:i=id
  ·subst hi;exact hpl
  ·exact hpo i hi
 have hg:eY X H0 β0 w00 (bU H id o') β w':=by
  refine⟨by rw[hsize];exact g0.size,λk hk he=>(hblk' k λh=>he (g0.sub k hk h)).trans (g0.blk k hk he),λk hk he=>g0.sub k hk (hsub k he),λi=>?_⟩;by_cases hi:i=id
  ·subst hi;exact hpass
  ·exact(g0.pass i).trans (hpo i hi)
 refine⟨⟨⟨hos.trans m.ext.os,htape.trans m.ext.tape,hout.trans m.ext.output,by rw[hsize];exact m.ext.size,λk hk' hno=>(hother k (λe=>?_)).trans (m.ext.block k hk' hno),Nat.le_trans m.ext.drawn hdr⟩,m.xold,λi b' hl hbb=>?_,λi j b' hi hj=>m.inj i j b' (hlv i hi) (hlv j hj),λi=>?_,λid hid=>(m0.pin id hid).trans (hg.pass id)⟩,hg⟩
 ·subst e;rcases(m.fresh id k hlive hb).1 with h|h
  ·omega
  ·exact hno (h.2 hm)
 ·have:=m.fresh i b' (hlv i hl) hbb;rw[hsize];exact this.imp (Or.imp (λh=>h) λh=>⟨h.1,λhm'=>h.2 (hmut i hm')⟩) (λh=>h)
 ·by_cases hi:i=id
  ·subst hi;exact ho hD hR
  ·exact(m.obj i).step (by rw[hsize];exact Nat.le_refl _) (λk _ he=>⟨hblk' k he,λh=>he (hsub k h)⟩) hD hR (bS _ _ hi) (λ_=>rfl) λb' hl hbb=>
    hother b' (λe=>by subst e;exact hi (m.inj i id b' hl hlive hbb hb))
theorem cV.rewriteG(m:cV w0 X H β w){id b:Nat}{o':aV}(hm:(H id).mut=true)(hb:β id=some b){w':World}(hos:w'.os=w.os)(htape:w'.tape=w.tape)(hout:w'.output=w.output)(hdr:w.drawn<=w'.drawn)(hsize:w'.heap.size=w.heap.size)(hother:∀k,k≠b->w'.heap[k]? =w.heap[k]?)
 (hpass:bL w β H w' β (bU H id o') id)
 (ho:(∀x v,RD w (Ex X β H) x v->RD w' (Ex X β (bU H id o')) x v)->(∀l v,R w (Ex X β H) β H l v->R w' (Ex X β (bU H id o')) β (bU H id o') l v)->
   cP w' (Ex X β (bU H id o')) β (bU H id o') id):
 cV w0 X (bU H id o') β w'/\eY X H β w (bU H id o') β w':=m.rewriteH m eY.refl hm hb hos htape hout hdr hsize hother hpass hpass ho
theorem cV.rewrite(m:cV w0 X H β w){id b:Nat}{o':aV}(hm:(H id).mut=true)(hb:β id=some b){cur cur':Array Value}{e:TypeId}(hblk:w.heap[b]? =some (.cells cur e (0,0)))(hsz:cur'.size=cur.size)
 (hk:(∃cs cs',H id=.box false cs/\o'=.box false cs')\/∃s xs xs',H id=.row false s xs/\o'=.row false s xs'/\xs.length<=xs'.length)
 (ho:(∀x v,RD w (Ex X β H) x v->RD (w.setRow b cur') (Ex X β (bU H id o')) x v)->(∀l v,R w (Ex X β H) β H l v->R (w.setRow b cur') (Ex X β (bU H id o')) β (bU H id o') l v)->
   cP (w.setRow b cur') (Ex X β (bU H id o')) β (bU H id o') id):
 cV w0 X (bU H id o') β (w.setRow b cur')/\eY X H β w (bU H id o') β (w.setRow b cur'):=by
 refine m.rewriteG hm hb rfl rfl rfl (Nat.le_refl _) (by simp[World.setRow]) (λk hk=>setRow_other w b k cur' (λe=>hk (by first|exact e|exact e.symm))) ?_ ho;unfold bL;rw[aM];rcases hk with⟨cs,cs',h1,h2⟩|⟨s,xs,xs',h1,h2,h3⟩
 ·rw[h1,h2];exact .inr ⟨⟨false,cs',rfl⟩,rfl⟩
 ·rw[h1,h2];refine .inr ⟨⟨false,xs',rfl,h3⟩,rfl,λb' c t hbb hblk'=>?_⟩;rw[hb]at hbb;injection hbb with hbb;subst hbb
  rw[hblk]at hblk';injection hblk' with hblk'
  injection hblk' with e1 e2
  subst e1;subst e2;exact⟨cur',e,setRow_heap w b cur cur' e (0,0) hblk,hsz⟩
end
end
section
open Go.RowKit
def pW:TypeDesc->TK->Prop
 | .int k,.int k'=>k=k'
 | .bool,.bool=>True
 | .string,.str=>True
 | .slice e,.slice e'=>e=e'
 | .struct fs,.struct l=>fs.toList.map (λf=>(f.offset,f.type))=l
 | .array n e,.arr n' e'=>n=n'/\e=e'
 | .pointer e,.ptr e'=>e=e'
 | .map k e,.map k' e'=>k=k'/\e=e'
 | .map _ _,.other=>True
 | .func _ _ _,.other=>True
 | .interface _,.other=>True
 | .tuple _,.other=>True
 |_,_=>False
def fM(P:Program)(t:TypeId):TK->Prop
 | .int k=>P.underlying t=some (.int k)
 | .bool=>P.underlying t=some .bool
 | .str=>P.underlying t=some .string
 |_=>False
def pB(P:Program)(t:TypeId)(ks:List TK):Prop:=P.stoodInHeld t=false/\∃fs,P.underlying t=some (.struct fs)/\fs.toList.length=ks.length/\
    ∀(j:Nat) (f:Field) (k:TK),fs.toList[j]? =some f->ks[j]? =some k->f.name≠ "_" /\f.offset=j/\fM P f.type k
def HR(P:Program)(t:TypeId)(ks:List TK):Prop:=∃n e inf kse,P.underlying t=some (.array n e)/\P.info? e=some inf/\inf.size=kse.length/\(pB P e kse\/∃k,kse=[k]/\fM P e k)/\ks=(List.replicate n kse).flatten
structure Pr(P:Program)(t:TypeId)(i:eC):Prop where
 all:∃inf d z,P.info? t=some inf/\P.underlying t=some d/\pW d i.k/\inf.size=i.size/\inf.bytes=i.bytes/\inf.zero=some z/\z.cells.toList=i.zero
 one:∀u∈i.zero,u.oneCell'=true
 zv:∃inf,P.info? t=some inf/\inf.zero=some (if i.k.agg then .agg i.zero.toArray else i.zero.getD 0 undef)/\(i.k.agg=false->i.zero.length=1)
 len:i.zero.length=i.size
 eqk:i.eqk≠[]->P.eqGuardType P.depth t=false/\(pB P t i.eqk\/HR P t i.eqk)
def fC(P:Program)(T:TypeId->eC):Prop:=∀t,(T t).k.isNone=false->Pr P t (T t)
def iV(P:Program)(w0:cX)(X:Nat->Prop)(H:Nat->aV)(β:Nat->Option Nat)(w:World)(a:Act)(o:Oper)(r:iO):Prop:=
 ∀(K:Act->World->Prop) (Q:Exit->Act->World->Prop),(∀v w' β',cV w0 X (bP H r.up) β' w'->eY X H β w (bP H r.up) β' w'->R w' (Ex X β' (bP H r.up)) β' (bP H r.up) r.v v->K (a.put o.dst v) w')->o.wp P a w K Q
def Kl(P:Program)(w0:cX)(X:Nat->Prop)(H:Nat->aV)(β:Nat->Option Nat)(w:World)(a:Act)(o:Oper)(rs:iO->Prop):Prop:=
 ∀(K:Act->World->Prop) (Q:Exit->Act->World->Prop),(∀r,rs r->∀v w' β',cV w0 X (bP H r.up) β' w'->eY X H β w (bP H r.up) β' w'->R w' (Ex X β' (bP H r.up)) β' (bP H r.up) r.v v->K (a.put o.dst v) w')->o.wp P a w K Q
section
variable{P:Program} {T:TypeId->eC} {w0:cX} {X:Nat->Prop} {H:Nat->aV} {β:Nat->Option Nat} {w:World} {a:Act} {o:Oper} {g:Operand->LV}
theorem iV.toE{r:iO}{rs:iO->Prop}(h:iV P w0 X H β w a o r)(hr:rs r):Kl P w0 X H β w a o rs:=λK Q hK=>h K Q (hK r hr)
theorem Kl.toS{r:iO}{rs:iO->Prop}(h:Kl P w0 X H β w a o rs)(hr:∀r',rs r'->r'.v=r.v/\r'.up=r.up):iV P w0 X H β w a o r:=λK Q hK=>h K Q λr' h' v w' β'=>by
 obtain⟨e1,e2⟩:=hr r' h';rw[e1,e2];exact hK v w' β'
theorem Kl.mono{rs rs':iO->Prop}(h:Kl P w0 X H β w a o rs)(hr:∀r,rs r->∃r',rs' r'/\r'.v=r.v/\r'.up=r.up):Kl P w0 X H β w a o rs':=λK Q hK=>h K Q λr h' v w' β'=>by
 obtain⟨r',h1,e1,e2⟩:=hr r h';rw[<-e1,<-e2];exact hK r' h1 v w' β'
theorem bG{r:iO}{v:Value}{w':World}{β':Nat->Option Nat}(hr:(execOp a.eval o).run P w=.ok (.value v) w')(m:cV w0 X (bP H r.up) β' w')(gg:eY X H β w (bP H r.up) β' w')
 (hv:R w' (Ex X β' (bP H r.up)) β' (bP H r.up) r.v v):iV P w0 X H β w a o r:=by
 intro K Q hK;unfold Oper.wp;rw[hr];exact hK v w' β' m gg hv
theorem iV.plain(m:cV w0 X H β w){lv:LV}{c:Prop}{v:Value}(hr:(execOp a.eval o).run P w=.ok (.value v) w)(hv:R w (Ex X β H) β H lv v):iV P w0 X H β w a o ⟨lv,c,[]⟩:=
 bG hr m eY.refl hv
theorem fC.parts(hT:fC P T){t:TypeId}(h:(T t).k.isNone=false):∃inf d z,P.info? t=some inf/\P.underlying t=some d/\pW d (T t).k/\inf.size=(T t).size/\inf.bytes=(T t).bytes/\inf.zero=some z/\z.cells.toList=(T t).zero:=(hT t h).all
theorem fC.slice(hT:fC P T){t e:TypeId}(h:(T t).k=.slice e):P.underlying t=some (.slice e):=by
 obtain⟨inf,d,z,h1,h2,h3,_⟩:=hT.parts (t:=t) (by rw[h];rfl);rw[h]at h3;cases d<;>simp_all[pW]
theorem fC.mapd(hT:fC P T){t k e:TypeId}(h:(T t).k=.map k e):P.underlying t=some (.map k e):=by
 obtain⟨inf,d,z,h1,h2,h3,_⟩:=hT.parts (t:=t) (by rw[h];rfl);rw[h]at h3;cases d<;>simp_all[pW]
theorem fC.int(hT:fC P T){t:TypeId}{k:IntKind}(h:(T t).k=.int k):P.underlying t=some (.int k):=by
 obtain⟨inf,d,z,h1,h2,h3,_⟩:=hT.parts (t:=t) (by rw[h];rfl);rw[h]at h3;cases d<;>simp_all[pW]
theorem fC.str(hT:fC P T){t:TypeId}(h:(T t).k=.str):P.underlying t=some .string:=by
 obtain⟨inf,d,z,h1,h2,h3,_⟩:=hT.parts (t:=t) (by rw[h];rfl);rw[h]at h3;cases d<;>simp_all[pW]
theorem fC.arr(hT:fC P T){t e:TypeId}{n:Nat}(h:(T t).k=.arr n e):P.underlying t=some (.array n e):=by
 obtain⟨inf,d,z,h1,h2,h3,_⟩:=hT.parts (t:=t) (by rw[h];rfl);rw[h]at h3;cases d<;>simp_all[pW]
theorem fC.struct(hT:fC P T){t:TypeId}{l:List (Nat×TypeId)}(h:(T t).k=.struct l):∃fs,P.underlying t=some (.struct fs)/\fs.toList.map (λf=>(f.offset,f.type))=l:=by
 obtain⟨inf,d,z,h1,h2,h3,_⟩:=hT.parts (t:=t) (by rw[h];rfl);rw[h]at h3;cases d<;>simp_all[pW]
theorem Cg:∀(cs:List LV) (ds:List DV),rT cs=some ds->cs=ds.map .d
 |[],ds,h=>by simp[rT]at h;subst h;rfl
 |c::r,ds,h=>by
  cases c<;>simp only[rT,Option.map_eq_some_iff,reduceCtorEq]at h;obtain⟨ys,h1,rfl⟩:=h;rw[Cg r ys h1];rfl
theorem R.mkAgg{E:Nat->Prop}{cs:List LV}{vs:List Value}(hl:vs.length=cs.length)(h1:∀u∈vs,u.oneCell'=true)(h:∀(i:Nat) (c:LV) (v:Value),cs[i]? =some c->vs[i]? =some v->R w E β H c v):R w E β H (mkAgg cs) (.agg vs.toArray):=by
 unfold Eng.mkAgg;cases e:rT cs with
 |none=>exact .agg cs vs hl h1 h
 |some ds=>
  have:=Cg cs ds e;subst this;refine .d _ _ (.agg ds vs (by simpa using hl) h1 λi c v hc hv=>?_);have:=h i (.d c) v (by simp[hc]) hv;cases this with|d _ _ h=>exact h
theorem HS(m:cV w0 X H β w)(hg:∀x,R w (Ex X β H) β H (g x) (a.eval x))(x:Operand)(ho:o.op=.move x\/o.op=.assign x):iV P w0 X H β w a o (.plain (g x)):=
 iV.plain m (v:=a.eval x) (by rcases ho with ho|ho<;>simp[execOp,ho]) (hg x)
theorem R.int{E:Nat->Prop}{k:IntKind}{n:Int}{v:Value}(h:R w E β H (.d (.int k n)) v):v=.int k n:=by cases h with|d _ _ h=>cases h;rfl
theorem R.bool{E:Nat->Prop}{b:Bool}{v:Value}(h:R w E β H (.d (.bool b)) v):v=.bool b:=by cases h with|d _ _ h=>cases h;rfl
theorem R.str{E:Nat->Prop}{s:List UInt8}{v:Value}(h:R w E β H (.d (.str s)) v):v=.string ⟨s.toArray⟩:=by cases h with|d _ _ h=>cases h;rfl
theorem bO{E:Nat->Prop}(k:IntKind)(n:Int):R w E β H (.d (.int k n)) (.int k n):=.d _ _ (.int k n)
theorem cB{E:Nat->Prop}(b:Bool):R w E β H (.d (.bool b)) (.bool b):=.d _ _ (.bool b)
theorem zT{E:Nat->Prop}(s:List UInt8):R w E β H (.d (.str s)) (.string ⟨s.toArray⟩):=.d _ _ (.str s)
theorem rW{t:TypeId}{k:TK}(hty:fM P t k){cs:Array Value}{i:Nat}{v:Value}(hcs:cs[i]? =some v):(part t cs i).run P w=.ok v w:=by
 cases k<;>simp only[fM]at hty<;>first|exact hty.elim|simp[part,isAgg,run_underlying hty,hcs]
theorem Ch(d:Nat){t:TypeId}{k:TK}(hty:fM P t k){E:Nat->Prop}{x y:DV}{u v:Value}{p:Bool}(e1:Ga x y=some p)(hk1:eE k x=true)(hu:RD w E x u)(hv:RD w E y v):(Op.equalIn (d+1) t u v).run P w=.ok p w:=by
 cases x<;>cases y<;>simp only[Ga,reduceCtorEq,Option.some.injEq,Option.ite_none_right_eq_some]at e1
 ·obtain⟨e1,e3⟩:=e1;subst e1;subst e3;cases hu;cases hv;cases k<;>simp only[eE,Bool.false_eq_true]at hk1;rw[run_equalIn_int w d t _ _ _ _ hty];congr 1
 ·subst e1;cases hu;cases hv;cases k<;>simp only[eE,Bool.false_eq_true]at hk1;exact run_equalIn_bool' w d t _ _ hty
 ·subst e1;cases hu;cases hv;cases k<;>simp only[eE,Bool.false_eq_true]at hk1;rw[run_equalIn_string w d t _ _ hty,ByteArray.toList_eq,ByteArray.toList_eq]
theorem vM(d:Nat):∀(xs ys:List DV) (ks:List TK) (vx vy:List Value) (A B:Array Value) (fs:List Field) (j:Nat) (c:Bool) (E:Nat->Prop),
 eX xs ys=some c->bH ks xs=true->vx.length=xs.length->vy.length=ys.length->fs.length=ks.length->
 (∀(i:Nat) (c:DV) (v:Value),xs[i]? =some c->vx[i]? =some v->RD w E c v)->(∀(i:Nat) (c:DV) (v:Value),ys[i]? =some c->vy[i]? =some v->RD w E c v)->
 (∀(i:Nat) v,vx[i]? =some v->A[j+i]? =some v)->(∀(i:Nat) v,vy[i]? =some v->B[j+i]? =some v)->
 (∀(i:Nat) (f:Field) (k:TK),fs[i]? =some f->ks[i]? =some k->f.name≠ "_" /\f.offset=j+i/\fM P f.type k)->
 (Op.eqFields (d+1) A B fs).run P w=.ok c w:=by
 intro xs;induction xs with
 |nil=>
  intro ys ks vx vy A B fs j c E h1 hk h2 h3 h4 _ _ _ _ _;cases ys with
  |nil=>
   simp only[eX,Option.some.injEq]at h1;subst h1;cases ks with
   |nil=>have:fs=[]:=List.eq_nil_of_length_eq_zero (by simpa using h4);subst this;simp[Op.eqFields]
   |cons=>simp[bH]at hk
  |cons=>simp[eX]at h1
 |cons x xs ih=>
  intro ys ks vx vy A B fs j c E h1 hk h2 h3 h4 hx hy hA hB hf;cases ks with
  |nil=>simp[bH]at hk
  |cons k ks=>
  cases ys with
  |nil=>simp[eX]at h1
  |cons y ys=>
   match vx,h2,vy,h3,fs,h4 with
   |u::vx,h2,v::vy,h3,f::fs,h4=>
    simp only[bH,Bool.and_eq_true]at hk;simp only[eX]at h1;cases e1:Ga x y with
    |none=>simp[e1]at h1
    |some p=>
     cases e2:eX xs ys with
     |none=>simp[e1,e2]at h1
     |some q=>
      simp only[e1,e2,Option.some.injEq]at h1;subst h1;obtain⟨hn,hoff,hty⟩:=hf 0 f k rfl rfl;have hu:=hx 0 x u rfl rfl;have hv:=hy 0 y v rfl rfl;have hAu:A[j]? =some u:=hA 0 u rfl;have hBv:B[j]? =some v:=hB 0 v rfl;have hrest:=ih ys ks vx vy A B fs (j+1) q E e2 hk.2 (by simpa using h2) (by simpa using h3) (by simpa using h4)
       (λi c v hc hv=>hx (i+1) c v (by simpa using hc) (by simpa using hv)) (λi c v hc hv=>hy (i+1) c v (by simpa using hc) (by simpa using hv))
       (λi v hv=>by have:=hA (i+1) v (by simpa using hv);rw[Nat.add_assoc,Nat.add_comm 1 i];exact this)
       (λi v hv=>by have:=hB (i+1) v (by simpa using hv);rw[Nat.add_assoc,Nat.add_comm 1 i];exact this)
       (λi f k hf' hk'=>by have:=hf (i+1) f k (by simpa using hf') (by simpa using hk');rw[Nat.add_assoc,Nat.add_comm 1 i];exact this)
      have hnagg:∀cs i v,cs[i]? =some v->(part f.type cs i).run P w=.ok v w:=λcs i v hcs=>rW hty hcs;have heq:(Op.equalIn (d+1) f.type u v).run P w=.ok p w:=Ch d hty e1 hk.1 hu hv;simp only[Op.eqFields,hn,ne_eq,not_false_eq_true,if_true,Sem.run_bind,hoff,Nat.add_zero,hnagg _ _ _ hAu,hnagg _ _ _ hBv,Result.andThen_ok,heq,Sem.run_ite];cases p
      ·simp
      ·simpa using hrest
end
end
section
open Go.RowKit
section
variable{P:Program} {T:TypeId->eC} {w0:cX} {X:Nat->Prop} {H:Nat->aV} {β:Nat->Option Nat} {w:World} {a:Act} {o:Oper} {g:Operand->LV} {E:Nat->Prop}
theorem Ci(op:BinOp)(t:TypeId)(ox oy:Operand)(k:IntKind)(n:Int)(v:Value):(eqGuard op t ox oy (.int k n) v).run P w=.ok () w:=by cases op<;>cases v<;>rfl
theorem Ge(op:BinOp)(t:TypeId)(ox oy:Operand)(b:Bool)(v:Value):(eqGuard op t ox oy (.bool b) v).run P w=.ok () w:=by cases op<;>cases v<;>rfl
theorem Ix(op:BinOp)(t:TypeId)(ox oy:Operand)(s:ByteArray)(v:Value):(eqGuard op t ox oy (.string s) v).run P w=.ok () w:=by cases op<;>cases v<;>rfl
theorem Na(op:BinOp)(t:TypeId)(ks:List TK)(tb:Bool){k k':IntKind}{a b:Int}(hok:(bA ks tb op (.d (.int k a)) (.d (.int k' b))).ok):
 ∃v,(binOp op t (.int k a) (.int k' b)).run P w=.ok v w/\(bA ks tb op (.d (.int k a)) (.d (.int k' b))).up=[]/\R w E β H (bA ks tb op (.d (.int k a)) (.d (.int k' b))).v v:=by
 unfold bA at*;cases op with
 |add=>
  simp only at hok|-;by_cases hk:k=k'
  ·subst hk;by_cases h64:k=.i64
   ·subst h64;simp only[if_true,iO.cond]at hok|-;exact⟨_,by simp[binOp,Op.intArith,IntWalk.i64_in _ hok],by trivial,bO _ _⟩
   ·simp only[if_true,if_neg h64,iO.plain]at hok|-;exact⟨_,by simp[binOp,Op.intArith],by trivial,bO _ _⟩
  ·simp only[if_neg hk,iO.fail]at hok
 |sub=>
  simp only at hok|-;by_cases hk:k=k'
  ·subst hk;by_cases h64:k=.i64
   ·subst h64;simp only[if_true,iO.cond]at hok|-;exact⟨_,by simp[binOp,Op.intArith,IntWalk.i64_in _ hok],by trivial,bO _ _⟩
   ·simp only[if_true,if_neg h64,iO.plain]at hok|-;exact⟨_,by simp[binOp,Op.intArith],by trivial,bO _ _⟩
  ·simp only[if_neg hk,iO.fail]at hok
 |mul=>
  simp only at hok|-;by_cases hk:k=k'
  ·subst hk;by_cases h64:k=.i64
   ·subst h64;simp only[if_true,iO.cond]at hok|-;exact⟨_,by simp[binOp,Op.intArith,IntWalk.i64_in _ hok],by trivial,bO _ _⟩
   ·simp only[if_true,if_neg h64,iO.plain]at hok|-;exact⟨_,by simp[binOp,Op.intArith],by trivial,bO _ _⟩
  ·simp only[if_neg hk,iO.fail]at hok
 |quo=>
  simp only at hok|-;by_cases hk:k=k'
  ·subst hk;by_cases h64:k=.i64
   ·subst h64;simp only[if_true,iO.cond]at hok|-;exact⟨_,by simp[binOp,Op.intDiv,hok.1,IntWalk.i64_in _ hok.2],by trivial,bO _ _⟩
   ·simp only[if_true,if_neg h64,iO.cond]at hok|-;exact⟨_,by simp[binOp,Op.intDiv,hok],by trivial,bO _ _⟩
  ·simp only[if_neg hk,iO.fail]at hok
 |rem=>
  simp only at hok|-;by_cases hk:k=k'
  ·subst hk;simp only[if_true,iO.cond]at hok|-;exact⟨_,by simp[binOp,Op.intDiv,hok],by trivial,bO _ _⟩
  ·simp only[if_neg hk,iO.fail]at hok
 |shl=>
  simp only[iO.cond]at hok|-;exact⟨_,by simp[binOp,Op.shift,Int.not_lt.2 hok],by trivial,bO _ _⟩
 |shr=>
  simp only[iO.cond]at hok|-;exact⟨_,by simp[binOp,Op.shift,Int.not_lt.2 hok],by trivial,bO _ _⟩
 |andNot=>exact hok.elim
 |and=>
  simp only at hok|-;by_cases hk:k=k'
  ·subst hk;simp only[if_true,iO.plain]at hok|-;exact⟨_,by simp[binOp,Op.intBits],by trivial,bO _ _⟩
  ·simp only[if_neg hk,iO.fail]at hok
 |or=>
  simp only at hok|-;by_cases hk:k=k'
  ·subst hk;simp only[if_true,iO.plain]at hok|-;exact⟨_,by simp[binOp,Op.intBits],by trivial,bO _ _⟩
  ·simp only[if_neg hk,iO.fail]at hok
 |xor=>
  simp only at hok|-;by_cases hk:k=k'
  ·subst hk;simp only[if_true,iO.plain]at hok|-;exact⟨_,by simp[binOp,Op.intBits],by trivial,bO _ _⟩
  ·simp only[if_neg hk,iO.fail]at hok
 |lss=>
  simp only at hok|-;by_cases hk:k=k'
  ·subst hk;simp only[if_true,iO.plain]at hok|-;exact⟨_,by simp[binOp,Op.intCmp],by trivial,cB _⟩
  ·simp only[if_neg hk,iO.fail]at hok
 |leq=>
  simp only at hok|-;by_cases hk:k=k'
  ·subst hk;simp only[if_true,iO.plain]at hok|-;exact⟨_,by simp[binOp,Op.intCmp],by trivial,cB _⟩
  ·simp only[if_neg hk,iO.fail]at hok
 |gtr=>
  simp only at hok|-;by_cases hk:k=k'
  ·subst hk;simp only[if_true,iO.plain]at hok|-;exact⟨_,by simp[binOp,Op.intCmp],by trivial,cB _⟩
  ·simp only[if_neg hk,iO.fail]at hok
 |geq=>
  simp only at hok|-;by_cases hk:k=k'
  ·subst hk;simp only[if_true,iO.plain]at hok|-;exact⟨_,by simp[binOp,Op.intCmp],by trivial,cB _⟩
  ·simp only[if_neg hk,iO.fail]at hok
 |eql=>
  simp only at hok|-;by_cases hk:k=k'
  ·subst hk;simp only[if_true,iO.plain]at hok|-;exact⟨_,by simp[binOp,Op.intCmp];rfl,by trivial,cB _⟩
  ·simp only[if_neg hk,iO.fail]at hok
 |neq=>
  simp only at hok|-;by_cases hk:k=k'
  ·subst hk;simp only[if_true,iO.plain]at hok|-;exact⟨_,by simp[binOp,Op.intCmp];rfl,by trivial,cB _⟩
  ·simp only[if_neg hk,iO.fail]at hok
theorem uE{t:TypeId}{ks:List TK}(h:pB P t ks)(d:Nat){a b:List DV}{c:Bool}{us vs:List Value}(he:eX a b=some c)(hk:bH ks a=true)(hul:us.length=a.length)(hvl:vs.length=b.length)
 (hup:∀(i:Nat) (c:DV) (v:Value),a[i]? =some c->us[i]? =some v->RD w E c v)(hvp:∀(i:Nat) (c:DV) (v:Value),b[i]? =some c->vs[i]? =some v->RD w E c v):
 (Op.equalIn (d+2) t (.agg us.toArray) (.agg vs.toArray)).run P w=.ok c w:=by
 obtain⟨g2,fs,g3,g4,g5⟩:=h;have hfo:P.fieldsOf t=fs:=by simp[Program.fieldsOf,g3]
 have hrun:=run_equalIn_struct (P:=P) w (d+1) t us.toArray vs.toArray (by rw[hfo];exact g3) g2;rw[hfo,vM d a b ks us vs us.toArray vs.toArray fs.toList 0 c E he hk hul hvl g4 hup hvp (λi v h=>by simpa using h) (λi v h=>by simpa using h) (λi f k h1 h2=>by simpa using g5 i f k h1 h2)]at hrun;exact hrun
theorem vN:∀{a b:List DV} {c:Bool},eX a b=some c->a.length=b.length
 |[],[],_,_=>rfl
 |x::a,y::b,c,h=>by
  simp only[eX]at h;split at h
  ·rename_i h2;simp[vN h2]
  ·cases h
 |[],_::_,_,h=>by simp[eX]at h
 |_::_,[],_,h=>by simp[eX]at h
theorem Aq:∀(n:Nat) {a b:List DV} {c:Bool},eX a b=some c->∃p q,eX (a.take n) (b.take n)=some p/\eX (a.drop n) (b.drop n)=some q/\c=(p&&q)
 |0,a,b,c,h=>⟨true,c,by simp[eX],by simpa using h,by simp⟩
 |n+1,[],[],c,h=>by simp[eX]at h;subst h;exact⟨true,true,by simp[eX],by simp[eX],rfl⟩
 |n+1,x::a,y::b,c,h=>by
  simp only[eX]at h;split at h
  ·rename_i p q h1 h2;obtain⟨p',q',e1,e2,e3⟩:=Aq n h2;refine⟨p&&p',q',by simp[eX,h1,e1],by simpa using e2,?_⟩;injection h with h
   rw[<-h,e3,Bool.and_assoc]
  ·cases h
 |_+1,[],_::_,_,h=>by simp[eX]at h
 |_+1,_::_,[],_,h=>by simp[eX]at h
theorem vO:∀{ks:List TK} {a:List DV},bH ks a=true->a.length=ks.length
 |[],[],_=>rfl
 |_::ks,_::a,h=>by simp only[bH,Bool.and_eq_true]at h;simp[vO h.2]
 |[],_::_,h=>by simp[bH]at h
 |_::_,[],h=>by simp[bH]at h
theorem rX:∀{ks ls:List TK} {a:List DV},bH (ks++ls) a=true->bH ks (a.take ks.length)=true/\bH ls (a.drop ks.length)=true
 |[],_,_,h=>⟨by simp[bH],by simpa using h⟩
 |_::ks,ls,[],h=>by simp[bH]at h
 |_::ks,ls,_::a,h=>by
  simp only[List.cons_append,bH,Bool.and_eq_true]at h;obtain⟨h1,h2⟩:=rX h.2;exact⟨by simp[bH,h.1,h1],by simpa using h2⟩
theorem yJ{e:TypeId}{inf:TypeInfo}{kse:List TK}(hi:P.info? e=some inf)(hsz:inf.size=kse.length)(hs:pB P e kse)(d:Nat)(xs ys:Array Value):∀(m k:Nat) (a b:List DV) (c:Bool) (us vs:List Value),
 eX a b=some c->bH (List.replicate m kse).flatten a=true->us.length=a.length->vs.length=b.length->
 (∀(i:Nat) (c:DV) (v:Value),a[i]? =some c->us[i]? =some v->RD w E c v)->(∀(i:Nat) (c:DV) (v:Value),b[i]? =some c->vs[i]? =some v->RD w E c v)->
 (∀i,i<us.length->xs[k*kse.length+i]? =us[i]?)->(∀i,i<vs.length->ys[k*kse.length+i]? =vs[i]?)->
 (Op.eqItems (d+2) e kse.length xs ys (List.range' k m)).run P w=.ok c w
 |0,k,a,b,c,us,vs,he,hk,_,_,_,_,_,_=>by
  have:a=[]:=by cases a<;>simp_all[bH]
  subst this;have:b=[]:=List.eq_nil_of_length_eq_zero (vN he).symm;subst this;simp only[eX,Option.some.injEq]at he;subst he;simp[Op.eqItems]
 |m+1,k,a,b,c,us,vs,he,hk,hul,hvl,hup,hvp,hx,hy=>by
  rw[List.replicate_succ,List.flatten_cons]at hk;obtain⟨k1,k2⟩:=rX hk;obtain⟨p,q,e1,e2,rfl⟩:=Aq kse.length he;have hal:=vO hk;rw[List.length_append]at hal;have hab:=vN he;have hpart:∀(xs:Array Value) (us:List Value),us.length=a.length->(∀i,i<us.length->xs[k*kse.length+i]? =us[i]?)->(part e xs (k*kse.length)).run P w=.ok (.agg (us.take kse.length).toArray) w:=by
   intro xs us hl hx;obtain⟨g2,fs,g3,_⟩:=hs;have hco:P.cellsOf e=kse.length:=by rw[<-hsz];simp[Program.cellsOf,hi]
   have hag:(isAgg e).run P w=.ok true w:=(by simp[isAgg,run_underlying g3]);have hso:(sizeOf e).run P w=.ok kse.length w:=(by simp[sizeOf,typeInfo,run_program,hi,hsz]);simp only[part,Sem.run_bind,hag,Result.andThen_ok,if_true,hso,Sem.run_pure];congr 2;apply Array.ext_getElem?;intro i;rw[Array.getElem?_extract,show(us.take kse.length).toArray[i]? =(us.take kse.length)[i]? from by simp,List.getElem?_take];by_cases hiL:i<kse.length
   ·have h1:=hx i (by omega);have h2:k*kse.length+i<xs.size:=by
     rw[List.getElem?_eq_getElem (by omega)]at h1;exact(Array.getElem?_eq_some_iff.1 h1).1
    rw[if_pos (by omega),if_pos hiL,h1]
   ·rw[if_neg (by omega),if_neg hiL]
  simp only[List.range'_succ,Op.eqItems,Sem.run_bind,hpart xs us hul hx,hpart ys vs (by omega) hy,Result.andThen_ok];have hst:=uE (w:=w) (E:=E) hs d (us:=us.take kse.length) (vs:=vs.take kse.length) e1 k1 (by simp[hul]) (by simp[hvl])
   (λi c v hc hv=>hup i c v (by rw[List.getElem?_take]at hc;split at hc<;>simp_all) (by rw[List.getElem?_take]at hv;split at hv<;>simp_all))
   (λi c v hc hv=>hvp i c v (by rw[List.getElem?_take]at hc;split at hc<;>simp_all) (by rw[List.getElem?_take]at hv;split at hv<;>simp_all))
  rw[hst];simp only[Result.andThen_ok];have hrec:=yJ hi hsz hs d xs ys m (k+1) (a.drop kse.length) (b.drop kse.length) q (us.drop kse.length) (vs.drop kse.length) e2 k2 (by simp[hul]) (by simp[hvl])
   (λi c v hc hv=>hup (kse.length+i) c v (by simpa using hc) (by simpa using hv)) (λi c v hc hv=>hvp (kse.length+i) c v (by simpa using hc) (by simpa using hv))
   (λi hi=>by simp at hi;rw[List.getElem?_drop,<-hx _ (by omega)];congr 1;rw[Nat.add_mul];omega)
   (λi hi=>by simp at hi;rw[List.getElem?_drop,<-hy _ (by omega)];congr 1;rw[Nat.add_mul];omega)
  cases p
  ·simp
  ·simp only[Bool.not_true,Bool.false_eq_true,if_false,Bool.true_and];exact hrec
theorem uF{e:TypeId}{k:TK}(hty:fM P e k)(d:Nat)(xs ys:Array Value):∀(m j:Nat) (a b:List DV) (c:Bool) (us vs:List Value),
 eX a b=some c->bH (List.replicate m k) a=true->us.length=a.length->vs.length=b.length->
 (∀(i:Nat) (c:DV) (v:Value),a[i]? =some c->us[i]? =some v->RD w E c v)->(∀(i:Nat) (c:DV) (v:Value),b[i]? =some c->vs[i]? =some v->RD w E c v)->
 (∀i,i<us.length->xs[j+i]? =us[i]?)->(∀i,i<vs.length->ys[j+i]? =vs[i]?)->
 (Op.eqItems (d+2) e 1 xs ys (List.range' j m)).run P w=.ok c w
 |0,j,a,b,c,us,vs,he,hk,_,_,_,_,_,_=>by
  have:a=[]:=by cases a<;>simp_all[bH]
  subst this;have:b=[]:=List.eq_nil_of_length_eq_zero (vN he).symm;subst this;simp only[eX,Option.some.injEq]at he;subst he;simp[Op.eqItems]
 |m+1,j,a,b,c,us,vs,he,hk,hul,hvl,hup,hvp,hx,hy=>by
  rw[List.replicate_succ]at hk
  match a,b,us,vs,hul,hvl with
  |x::a,y::b,u::us,v::vs,hul,hvl=>
   simp only[bH,Bool.and_eq_true]at hk;simp only[eX]at he;cases e1:Ga x y with
   |none=>simp[e1]at he
   |some p=>
    cases e2:eX a b with
    |none=>simp[e1,e2]at he
    |some q=>
     simp only[e1,e2,Option.some.injEq]at he;subst he;have h1:=rW (P:=P) (w:=w) hty (cs:=xs) (i:=j*1) (v:=u) (by have:=hx 0 (by simp);simpa using this);have h2:=rW (P:=P) (w:=w) hty (cs:=ys) (i:=j*1) (v:=v) (by have:=hy 0 (by simp);simpa using this);have h3:=Ch (P:=P) (w:=w) (d+1) hty e1 hk.1 (hup 0 x u rfl rfl) (hvp 0 y v rfl rfl);have hrec:=uF hty d xs ys m (j+1) a b q us vs e2 hk.2 (by simpa using hul) (by simpa using hvl)
      (λi c v hc hv=>hup (i+1) c v (by simpa using hc) (by simpa using hv)) (λi c v hc hv=>hvp (i+1) c v (by simpa using hc) (by simpa using hv))
      (λi hi=>by have:=hx (i+1) (by simp;omega);rw[show j+1+i=j+(i+1)by omega,this];simp)
      (λi hi=>by have:=hy (i+1) (by simp;omega);rw[show j+1+i=j+(i+1)by omega,this];simp)
     simp only[List.range'_succ,Op.eqItems,Sem.run_bind,h1,h2,Result.andThen_ok,h3];cases p
     ·simp
     ·simp only[Bool.not_true,Bool.false_eq_true,if_false,Bool.true_and];exact hrec
  |[],_,_,_,_,_=>simp[bH]at hk
  |_::_,[],_,_,_,_=>simp[eX]at he
theorem Gf{t:TypeId}{ks:List TK}(h:HR P t ks)(d:Nat){a b:List DV}{c:Bool}{us vs:List Value}(he:eX a b=some c)(hk:bH ks a=true)(hul:us.length=a.length)(hvl:vs.length=b.length)
 (hup:∀(i:Nat) (c:DV) (v:Value),a[i]? =some c->us[i]? =some v->RD w E c v)(hvp:∀(i:Nat) (c:DV) (v:Value),b[i]? =some c->vs[i]? =some v->RD w E c v):
 (Op.equalIn (d+3) t (.agg us.toArray) (.agg vs.toArray)).run P w=.ok c w:=by
 obtain⟨n,e,inf,kse,hu,hi,hsz,hs,rfl⟩:=h;have hco:P.cellsOf e=kse.length:=by rw[<-hsz];simp[Program.cellsOf,hi]
 rw[run_equalIn_array w (d+2) _ _ hu hi,hco,List.range_eq_range'];rcases hs with hs|⟨k,rfl,hty⟩
 rotate_left
 ·exact uF hty d _ _ n 0 a b c us vs he (by rw[show List.replicate n k=(List.replicate n [k]).flatten by simp];exact hk) hul hvl hup hvp (λi _=>by simp) (λi _=>by simp)
 exact yJ hi hsz hs d _ _ n 0 a b c us vs he hk hul hvl hup hvp (λi _=>by simp) (λi _=>by simp)
theorem Ar{t:TypeId}{ks:List TK}(h:pB P t ks\/HR P t ks){a b:List DV}{c:Bool}{us vs:List Value}(he:eX a b=some c)(hk:bH ks a=true)(hul:us.length=a.length)(hvl:vs.length=b.length)
 (hup:∀(i:Nat) (c:DV) (v:Value),a[i]? =some c->us[i]? =some v->RD w E c v)(hvp:∀(i:Nat) (c:DV) (v:Value),b[i]? =some c->vs[i]? =some v->RD w E c v):
 (Op.equalIn 10000 t (.agg us.toArray) (.agg vs.toArray)).run P w=.ok c w:=by
 rcases h with h|h
 ·exact uE h 9998 he hk hul hvl hup hvp
 ·exact Gf h 9997 he hk hul hvl hup hvp
theorem Nb(hT:fC P T)(op:BinOp)(t:TypeId)(ox oy:Operand){x y:LV}{vx vy:Value}(hx:R w E β H x vx)(hy:R w E β H y vy)(hok:(bA (T t).eqk (T t).k.isBool op x y).ok)(ht:(T t).eqk≠[]->(T t).k.isNone=false):
 ∃v,((do eqGuard op t ox oy vx vy;binOp op t vx vy:Sem Value)).run P w=.ok v w/\(bA (T t).eqk (T t).k.isBool op x y).up=[]/\R w E β H (bA (T t).eqk (T t).k.isBool op x y).v v:=by
 have hok0:=hok;unfold bA at hok;split at hok
 ·rename_i k a k' b;have:=hx.int;subst this;have:=hy.int;subst this;obtain⟨v,h1,h2,h3⟩:=Na (P:=P) (w:=w) (E:=E) (β:=β) (H:=H) op t (T t).eqk (T t).k.isBool hok0;exact⟨v,by rw[Sem.run_bind,Ci];exact h1,h2,h3⟩
 ·rename_i a b;have:=hx.str;subst this;have:=hy.str;subst this;simp only[Sem.run_bind,Ix,Result.andThen_ok];unfold bA;cases op with
 |add=>
  simp only[iO.cond]at hok|-;refine⟨_,?_,by trivial,zT _⟩;have:=run_string_add_sum (P:=P) (w:=w) ⟨a.toArray⟩ ⟨b.toArray⟩ (by simpa [ByteArray.size]using hok);simp only[binOp];rw[this];congr 2
 |lss=>
  simp only[iO.plain]at hok|-;exact⟨_,by simp[binOp,Op.stringOp,ByteArray.toList_eq],by trivial,cB _⟩
 |leq=>
  simp only[iO.plain]at hok|-;exact⟨_,by simp[binOp,Op.stringOp,ByteArray.toList_eq],by trivial,cB _⟩
 |gtr=>
  simp only[iO.plain]at hok|-;exact⟨_,by simp[binOp,Op.stringOp,ByteArray.toList_eq],by trivial,cB _⟩
 |geq=>
  simp only[iO.plain]at hok|-;exact⟨_,by simp[binOp,Op.stringOp,ByteArray.toList_eq],by trivial,cB _⟩
 |eql=>
  simp only[iO.plain]at hok|-;exact⟨_,by simp[binOp,Op.stringOp,ByteArray.toList_eq],by trivial,cB _⟩
 |neq=>
  simp only[iO.plain]at hok|-;exact⟨_,by simp[binOp,Op.stringOp,ByteArray.toList_eq],by trivial,cB _⟩
 |sub|mul|quo|rem|and|or|xor|andNot|shl|shr=>exact hok.elim
 ·rename_i a b;unfold bA;cases op with
 |eql=>
  simp only at hok|-;cases e:eX a b with
  |none=>rw[e]at hok;exact hok.elim
  |some c=>
   rw[e]at hok;simp only[iO.cond]at hok|-;obtain⟨hk,hne⟩:=hok;have hek:(T t).eqk≠[]:=by intro h;rw[h]at hk;cases a<;>simp_all[bH]
   obtain⟨g1,g2⟩:=(hT t (ht hek)).eqk hek;cases hx with
  |d _ _ hx=>cases hx with
   |agg _ us hul _ hup=>cases hy with
    |d _ _ hy=>cases hy with
     |agg _ vs hvl _ hvp=>
       have hrun:=Ar (w:=w) (E:=E) g2 e hk hul hvl hup hvp;refine⟨_,?_,by trivial,cB _⟩;rw[Sem.run_bind,run_eqGuard_agg w _ t ox oy _ _ g1];simp only[Result.andThen_ok];rw[run_eql_struct,hrun];rfl
 |neq=>
  simp only at hok|-;cases e:eX a b with
  |none=>rw[e]at hok;exact hok.elim
  |some c=>
   rw[e]at hok;simp only[iO.cond]at hok|-;obtain⟨hk,hne⟩:=hok;have hek:(T t).eqk≠[]:=by intro h;rw[h]at hk;cases a<;>simp_all[bH]
   obtain⟨g1,g2⟩:=(hT t (ht hek)).eqk hek;cases hx with
  |d _ _ hx=>cases hx with
   |agg _ us hul _ hup=>cases hy with
    |d _ _ hy=>cases hy with
     |agg _ vs hvl _ hvp=>
       have hrun:=Ar (w:=w) (E:=E) g2 e hk hul hvl hup hvp;refine⟨_,?_,by trivial,cB _⟩;rw[Sem.run_bind,run_eqGuard_agg w _ t ox oy _ _ g1];simp only[Result.andThen_ok];rw[run_neq_struct,hrun];rfl
 |add|sub|mul|quo|rem|and|or|xor|andNot|shl|shr|lss|leq|gtr|geq=>exact hok.elim
 ·rename_i a b;have:=hx.bool;subst this;have:=hy.bool;subst this;simp only[Sem.run_bind,Ge,Result.andThen_ok];unfold bA;have hbt:(T t).k.isBool=true->P.underlying t=some .bool:=λh=>by
   obtain⟨inf,d,z,h1,h2,h3,_⟩:=hT.parts (t:=t) (by cases e:(T t).k<;>simp_all[TK.isBool,TK.isNone]);cases e:(T t).k<;>simp_all[TK.isBool];cases d<;>simp_all[pW]
  cases op with
  |eql=>
   simp only[iO.cond]at hok|-;exact⟨_,by simp[binOp,Op.equal,Op.maxDepth,run_equalIn_bool' w 9999 t a b (hbt hok)],by trivial,cB _⟩
  |neq=>
   simp only[iO.cond]at hok|-;exact⟨_,by simp[binOp,Op.equal,Op.maxDepth,run_equalIn_bool' w 9999 t a b (hbt hok)],by trivial,cB _⟩
  |add|sub|mul|quo|rem|and|or|xor|andNot|shl|shr|lss|leq|gtr|geq=>exact hok.elim
 ·exact hok.elim
theorem Ol(hT:fC P T)(m:cV w0 X H β w)(hg:∀x,R w (Ex X β H) β H (g x) (a.eval x)){op:BinOp}{t u:TypeId}{x y:Operand}(ho:o.op=.binOp op t x y u)
 (hok:(bA (T t).eqk (T t).k.isBool op (g x) (g y)).ok)(ht:(T t).eqk≠[]->(T t).k.isNone=false):iV P w0 X H β w a o (bA (T t).eqk (T t).k.isBool op (g x) (g y)):=by
 obtain⟨v,h1,h2,h3⟩:=Nb hT op t x y (hg x) (hg y) hok ht;refine bG (v:=v) (w':=w) (β':=β) ?_ (by rw[h2];exact m) (by rw[h2];exact eY.refl) (by rw[h2];exact h3);unfold execOp;simp only[ho];rw[Sem.run_bind,h1];rfl
theorem Gg(d:Nat){t e:TypeId}(p:Option Addr)(h:P.underlying t=some (.pointer e)):(Op.equalIn (d+1) t (.pointer p) (.pointer none)).run P w=.ok p.isNone w:=by
 cases p<;>simp[Op.equalIn,run_underlying h]
theorem Om(hT:fC P T)(m:cV w0 X H β w)(hg:∀x,R w (Ex X β H) β H (g x) (a.eval x)){op:BinOp}{t u:TypeId}{x y:Operand}(ho:o.op=.binOp op t x y u)
 (hp:(T t).k.isPtr=true)(hok:(oA op (g x) (g y)).ok):iV P w0 X H β w a o (oA op (g x) (g y)):=by
 obtain⟨e,hu⟩:∃e,P.underlying t=some (.pointer e):=by
  obtain⟨inf,d,z,h1,h2,h3,_⟩:=hT.parts (t:=t) (by cases q:(T t).k<;>simp_all[TK.isPtr,TK.isNone]);cases q:(T t).k<;>simp_all[TK.isPtr];cases d<;>simp_all[pW]
 have hx:=hg x;have hy:=hg y;generalize hvx:a.eval x=vx at hx;generalize hvy:a.eval y=vy at hy;generalize g x=lx at*;generalize g y=ly at*;have fin:∀(p:Option Addr),vx=.pointer p->vy=.pointer none->(execOp a.eval o).run P w=.ok (.value (.bool (if op=.eql then p.isNone else !p.isNone))) w:=λp h1 h2=>by
  subst h1;subst h2;cases op<;>simp_all[execOp,eqGuard,binOp,Op.equal,Op.maxDepth,Gg,oA,iO.fail]
 unfold oA at*;split at hok
 ·cases hx with|d _ _ hx=>cases hx with|ro _ b off us=>cases hy with|d _ _ hy=>cases hy with|val _ _=>exact iV.plain m (fin _ rfl rfl) (cB _)
 ·cases hx with|d _ _ hx=>cases hx with|ro _ b off us=>cases hy with|d _ _ hy=>cases hy with|val _ _=>exact iV.plain m (fin _ rfl rfl) (cB _)
 ·cases hx with|d _ _ hx=>cases hx with|val _ _=>cases hy with|d _ _ hy=>cases hy with|val _ _=>exact iV.plain m (fin _ rfl rfl) (cB _)
 ·cases hx with|d _ _ hx=>cases hx with|val _ _=>cases hy with|d _ _ hy=>cases hy with|val _ _=>exact iV.plain m (fin _ rfl rfl) (cB _)
 ·exact hok.elim
theorem Ps(m:cV w0 X H β w)(hg:∀x,R w (Ex X β H) β H (g x) (a.eval x)){op:UnOp}{t:TypeId}{x:Operand}(ho:o.op=.unOp op t x)
 (hok:(bW op (g x)).ok):iV P w0 X H β w a o (bW op (g x)):=by
 have hx:=hg x;generalize g x=lx at*;unfold bW at*;split at hok
 ·have:=hx.bool;exact iV.plain m (v:=.bool _) (by simp[execOp,ho,this,Op.unary]) (cB _)
 ·rename_i k n;have:=hx.int;exact iV.plain m (v:=.int k _) (by simp only[execOp,ho,this,Op.unary];rfl) (bO _ _)
 ·rename_i k n;have:=hx.int;by_cases h64:k=.i64
  ·subst h64;simp only[if_true,iO.cond]at hok|-;exact iV.plain m (v:=.int .i64 (0-n)) (by simp only[execOp,ho,this,Op.unary,Op.intArith,IntWalk.i64_in _ hok];rfl) (bO _ _)
  ·simp only[if_neg h64,iO.plain]at hok|-;exact iV.plain m (v:=.int k (k.wrap (0-n))) (by simp only[execOp,ho,this,Op.unary,Op.intArith];rfl) (bO _ _)
 ·exact hok.elim
theorem R.bools{x:LV}{v:Value}(hx:R w E β H x v)(he:Pp x=true):v=.bool (Iw x):=by
 unfold Pp at he;split at he
 ·cases hx with|when _ _ _ h _=>exact(h he).bool
 ·exact hx.bool
 ·cases he
theorem As(m:cV w0 X H β w){c x y:Operand}{lc lx ly:LV}(hc:R w (Ex X β H) β H lc (a.eval c))(hx:R w (Ex X β H) β H lx (a.eval x))(hy:R w (Ex X β H) β H ly (a.eval y))(ho:o.op=.pick c x y)
 (hok:(lL lc lx ly).ok):iV P w0 X H β w a o (lL lc lx ly):=by
 unfold lL at*;split at hok
 ·rename_i p;have hcv:=hc.bool;simp only[iO.cond]at hok|-;cases p
  ·have:=hy.bools (hok.2 rfl);exact iV.plain m (v:=.bool (Iw ly)) (by simp[execOp,ho,hcv,this,asBool]) (cB _)
  ·have:=hx.bools (hok.1 rfl);exact iV.plain m (v:=.bool (Iw lx)) (by simp[execOp,ho,hcv,this,asBool]) (cB _)
 ·exact hok.elim
theorem Nc(m:cV w0 X H β w)(hg:∀x,R w (Ex X β H) β H (g x) (a.eval x)){c x y:Operand}(ho:o.op=.pick c x y)
 (hok:(lL (g c) (g x) (g y)).ok):iV P w0 X H β w a o (lL (g c) (g x) (g y)):=As m (hg c) (hg x) (hg y) ho hok
theorem aR(H:Nat->aV)(d:Nat)(x:aV):bP H [(d,x)]=bU H d x:=by funext j;simp[bP,bU]
theorem fN(H:Nat->aV)(d:Nat)(x:aV)(l:List (Nat×aV)):bP H ((d,x)::l)=bU (bP H l) d x:=by funext j;simp[bP,bU]
theorem HT(m:cV w0 X H β w){d:Nat}(hd:H d=.absent){cs:List LV}{us:List Value}(hl:us.length=cs.length)(h1:∀u∈us,u.oneCell'=true)(h:∀(i:Nat) (c:LV) (v:Value),cs[i]? =some c->us[i]? =some v->R w (Ex X β H) β H c v)(e:TypeId):
 cV w0 X (bU H d (.box false cs)) (bU β d (some w.heap.size)) (w.alloc (.cells us.toArray e))/\eY X H β w (bU H d (.box false cs)) (bU β d (some w.heap.size)) (w.alloc (.cells us.toArray e)):=
 m.newObj ((BP.refl _ _).alloc (Nat.le_refl _) _) hd (some w.heap.size) (λb hb=>by injection hb with hb;subst hb;simp) λ_ hR=>by
  unfold cP;rw[aM];exact⟨w.heap.size,e,us,by rw[aM],heap_alloc_new w _,hl,h1,λi c v hc hv=>hR _ _ (h i c v hc hv)⟩
theorem HU(d b:Nat)(cs:List LV):R w E (bU β d (some b)) (bU H d (.box false cs)) (.bx d 0) (.pointer (some ⟨b,0,none⟩)):=
 .bx d 0 b false cs (by rw[aM]) (by rw[aM])
theorem On(m:cV w0 X H β w)(hg:∀x,R w (Ex X β H) β H (g x) (a.eval x)){t:TypeId}{x:Operand}(ho:o.op=.box t x){d:Nat}(hok:H d=.absent/\gO H (g x)=true):
 iV P w0 X H β w a o ⟨.bx d 0,H d=.absent/\gO H (g x)=true,[(d,.box false (cS (g x)))]⟩:=by
 obtain⟨h1,h2⟩:=(hg x).cells hok.2;have:=HT m hok.1 h1 ((hg x).cells1 hok.2) h2 t;refine bG (v:=.pointer (some ⟨w.heap.size,0,none⟩)) (w':=w.alloc (.cells (a.eval x).cells.toList.toArray t)) (β':=bU β d (some w.heap.size)) ?_ ?_ ?_ ?_
 ·simp[execOp,ho,Instr.box,newVar,newRow]
 ·simp only[aR];exact this.1
 ·simp only[aR];exact this.2
 ·simp only[aR];exact HU _ _ _
theorem Ku(hT:fC P T)(m:cV w0 X H β w){t:TypeId}(ho:o.op=.alloc t){d:Nat}(hok:H d=.absent/\(T t).k.isNone=false):
 iV P w0 X H β w a o ⟨.bx d 0,H d=.absent/\(T t).k.isNone=false,[(d,.box false ((T t).zero.map mE))]⟩:=by
 obtain⟨inf,dd,z,h1,h2,h3,h4,h5,h6,h7⟩:=hT.parts hok.2;have:=HT m hok.1 (cs:=(T t).zero.map mE) (us:=z.cells.toList) (by simp[h7]) (λu hu=>(hT t hok.2).one u (by rw[<-h7];exact hu)) (λi c v hc hv=>by
  rw[h7]at hv;simp[hv]at hc;subst hc;exact R.const v) t
 refine bG (v:=.pointer (some ⟨w.heap.size,0,none⟩)) (w':=w.alloc (.cells z.cells.toList.toArray t)) (β':=bU β d (some w.heap.size)) ?_ ?_ ?_ ?_
 ·simp[execOp,ho,Instr.alloc,zeroValue,typeInfo,h1,h6,newVar,newRow]
 ·simp only[aR];exact this.1
 ·simp only[aR];exact this.2
 ·simp only[aR];exact HU _ _ _
end
end
section
open Go.RowKit
section
variable{P:Program} {T:TypeId->eC} {w0:cX} {X:Nat->Prop} {H:Nat->aV} {β:Nat->Option Nat} {w:World} {a:Act} {o:Oper} {g:Operand->LV} {E:Nat->Prop}
theorem Oo{d:TypeDesc}{k:TK}(h:pW d k):(match d with| .struct _| .array _ _=>true|_=>false)=k.agg:=by cases d<;>cases k<;>first|rfl|exact False.elim h
theorem Cj(hT:fC P T){t:TypeId}(h:(T t).k.isNone=false):(isAgg t).run P w=.ok (T t).k.agg w:=by
 obtain⟨inf,d,z,h1,h2,h3,_⟩:=hT.parts h;have:=Oo h3;rw[<-this];cases d<;>simp[isAgg,run_underlying h2]
theorem bQ(hT:fC P T){t:TypeId}(h:(T t).k.isNone=false):(sizeOf t).run P w=.ok (T t).size w:=by
 obtain⟨inf,d,z,h1,h2,h3,h4,_⟩:=hT.parts h;simp[sizeOf,typeInfo,h1,h4]
theorem yK(hT:fC P T){t:TypeId}(h:(T t).k.isNone=false){b off:Nat}{us:List Value}(hl:us.length=(T t).size)(hs:(T t).k.agg=false->(T t).size=1)
 (hc:∀(j:Nat) (u:Value),us[j]? =some u->w.cell? ⟨b,off+j,none⟩=some u):
 (loadVar t ⟨b,off,none⟩).run P w=.ok (if(T t).k.agg then .agg us.toArray else us.getD 0 undef) w:=by
 unfold loadVar;rw[Sem.run_bind,Cj hT h];simp only[Result.andThen_ok];cases e:(T t).k.agg
 ·simp only[Bool.false_eq_true,if_false]
  match us,hl.trans (hs e)with
  |[u],_=>
   have:=hc 0 u rfl;simp only[Nat.add_zero]at this;simp[this]
 ·simp only[if_true,Sem.run_bind,bQ hT h,Result.andThen_ok];rw[<-hl,run_loadCells_list (P:=P) (w:=w) ⟨b,off,none⟩ us (λj v hv=>by rw[Addr.add_lit];exact hc j v hv)];rfl
theorem zU{E:Nat->Prop}{cs:List DV}{us:List Value}{agg:Bool}{s off:Nat}(hul:cs.length<=us.length)(h1:∀{i:Nat} (u:Value),us[i]? =some u->i<cs.length->u.oneCell'=true)(hle:off+s<=cs.length)(hs:agg=false->s=1)
 (h:∀(i:Nat) (c:DV) (v:Value),cs[i]? =some c->us[i]? =some v->RD w E c v):
 RD w E (Ak agg s off cs) (if agg then .agg ((us.drop off).take s).toArray else((us.drop off).take s).getD 0 undef):=by
 unfold Ak;cases agg
 ·simp only[Bool.false_eq_true,if_false];have hs1:=hs rfl;subst hs1;have h1:off<cs.length:=by omega
  have h2:off<us.length:=by omega
  refine h off _ _ (by rw[List.getD_eq_getElem?_getD,List.getElem?_eq_getElem h1];rfl) ?_;simp[List.getD_eq_getElem?_getD,List.getElem?_drop,h2]
 ·simp only[if_true];refine .agg _ _ (by simp;omega) (λu hu=>?_) λi c v hc hv=>?_
  ·obtain⟨i,hi,rfl⟩:=List.getElem_of_mem hu;simp at hi;simp only[List.getElem_take,List.getElem_drop];exact h1 _ (List.getElem?_eq_getElem _) (by omega)
  rw[List.getElem?_take]at hc hv;split at hc
  ·rename_i hi;rw[if_pos hi]at hv;rw[List.getElem?_drop]at hc hv;exact h _ c v hc hv
  ·cases hc
theorem Dh{cs:List LV}{us:List Value}{agg:Bool}{s off:Nat}(hul:cs.length=us.length)(h1:∀u∈us,u.oneCell'=true)(hle:off+s<=cs.length)(hs:agg=false->s=1)
 (h:∀(i:Nat) (c:LV) (v:Value),cs[i]? =some c->us[i]? =some v->R w E β H c v):
 R w E β H (Cf agg s off cs) (if agg then .agg ((us.drop off).take s).toArray else((us.drop off).take s).getD 0 undef):=by
 unfold Cf;cases agg
 ·simp only[Bool.false_eq_true,if_false];have hs1:=hs rfl;subst hs1;have h1:off<cs.length:=by omega
  have h2:off<us.length:=by omega
  refine h off _ _ (by rw[List.getD_eq_getElem?_getD,List.getElem?_eq_getElem h1];rfl) ?_;simp[List.getD_eq_getElem?_getD,List.getElem?_drop,h2]
 ·simp only[if_true];refine R.mkAgg (by simp;omega) (λu hu=>h1 u (List.mem_of_mem_drop (List.mem_of_mem_take hu))) λi c v hc hv=>?_;rw[List.getElem?_take]at hc hv;split at hc
  ·rename_i hi;rw[if_pos hi]at hv;rw[List.getElem?_drop]at hc hv;exact h _ c v hc hv
  ·cases hc
theorem pC{s:Nat}{xs:List DV}{k:Nat}(hk:k<xs.length)(hs:∀x∈xs,(aK x).length=s):(aK (xs.getD k default)).length=s/\∀j,j<s->(bB xs)[k*s+j]? =(aK (xs.getD k default))[j]? :=by
 have e:xs.getD k default=xs[k]:=by simp[List.getD_eq_getElem?_getD,hk]
 refine⟨by rw[e];exact hs _ (List.getElem_mem hk),λj hj=>?_⟩;rw[Eo hs k j hj,e,List.getElem?_eq_getElem hk];rfl
theorem Nd(hT:fC P T)(m:cV w0 X H β w)(hg:∀x,R w (Ex X β H) β H (g x) (a.eval x)){t:TypeId}{x:Operand}(ho:o.op=.load t x)(ht:(T t).k.isNone=false)
 (hok:(lM H (T t) (g x)).ok):iV P w0 X H β w a o (lM H (T t) (g x)):=by
 have hx:=hg x;generalize g x=lx at*;generalize hval:a.eval x=vx at hx;unfold lM at*;have fin:∀(b off:Nat) (us:List Value),vx=.pointer (some ⟨b,off,none⟩)->us.length=(T t).size->((T t).k.agg=false->(T t).size=1)->
  (∀(j:Nat) (u:Value),us[j]? =some u->w.cell? ⟨b,off+j,none⟩=some u)->(execOp a.eval o).run P w=.ok (.value (if(T t).k.agg then .agg us.toArray else us.getD 0 undef)) w:=by
  intro b off us hv hl hs hc;have:=yK (P:=P) (w:=w) hT ht hl hs hc;have hv':=hval.trans hv;simp only[execOp,ho,Instr.loadAt,Instr.sureAddr,hv',Sem.run_bind,Sem.run_pure,Result.andThen_ok,this]
 split at hok
 ·rename_i id off;split at hok
  ·rename_i fz cs hH;simp only[iO.cond]at hok|-;have hob:=m.obj id;simp only[cP,hH]at hob;obtain⟨b,e,us,hb,hblk,hlen,h1,hp⟩:=hob;cases hx with
   |bx _ _ b' _ _ _ hb'=>
    rw[hb]at hb';injection hb' with hb';subst hb'
    refine iV.plain m (fin b off ((us.drop off).take (T t).size) rfl (by simp;omega) hok.2 (λj u hu=>?_)) (Dh hlen.symm h1 hok.1 hok.2 hp);rw[cell_of_row w b _ us.toArray e (0,0) hblk];rw[List.getElem?_take]at hu;split at hu
    ·simpa using hu
    ·cases hu
   |bxdead _ _ _ hd=>rw[hH]at hd;cases hd
  ·exact hok.elim
 ·rename_i cs;simp only[iO.cond]at hok|-;cases hx with
  |d _ _ hx=>cases hx with
   |ro _ b off us hnb hul h1 hlt hcell hp=>
    refine iV.plain m (fin b off ((us.drop 0).take (T t).size) rfl (by simp;omega) hok.2 (λj u hu=>?_)) (.d _ _ (zU (by omega) (λu hu _=>h1 u (List.mem_of_getElem? hu)) (by omega) hok.2 hp));rw[List.getElem?_take]at hu;split at hu
    ·exact hcell j u (by simpa using hu)
    ·cases hu
 ·rename_i id k j;split at hok
  ·rename_i fz s xs hH;simp only[iO.cond]at hok|-;obtain⟨hk,hj,hs⟩:=hok;have hob:=m.obj id;simp only[cP,hH]at hob;obtain⟨hpos,hall,hob⟩:=hob;obtain⟨hcl,hcc⟩:=pC hk hall;cases hx with
   |rp _ _ _ b' _ _ _ hH' hb'=>
    rw[hH]at hH';injection hH' with _ e1 e2;subst e1;subst e2
    rcases hob with⟨hn,_⟩|⟨b,e,cur,hb,hblk,hlen,hp⟩
    ·rw[hn]at hb';cases hb'
    ·rw[hb]at hb';injection hb' with hb';subst hb'
     have hks:k*s+s<=xs.length*s:=by have:(k+1)*s<=xs.length*s:=Nat.mul_le_mul_right _ hk;rw[Nat.add_mul,Nat.one_mul]at this;exact this
     have hcs:cur.size=cur.toList.length:=(by simp);refine iV.plain m (fin b (k*s+j) (((cur.toList.drop (k*s)).drop j).take (T t).size) rfl (by simp;omega) hs (λi u hu=>?_))
      (.d _ _ (zU (us:=cur.toList.drop (k*s)) (by rw[hcl,List.length_drop];omega) (λ{i} u hu hi=>?_) hj hs λi c v hc hv=>?_))
     ·rw[cell_of_row w b _ cur e (0,0) hblk];rw[List.getElem?_take]at hu;split at hu
      ·simpa [Nat.add_assoc]using hu
      ·cases hu
     ·rw[hcl]at hi;rw[List.getElem?_drop]at hu;exact(hp _ _ u (by rw[hcc i hi];exact List.getElem?_eq_getElem (by omega)) (by simpa using hu)).1
     ·have hi:i<s:=by have:=(List.getElem?_eq_some_iff.1 hc).1;omega
      rw[List.getElem?_drop]at hv;exact(hp _ c v (by rw[hcc i hi];exact hc) (by simpa using hv)).2
   |rpdead _ _ _ _ hd=>rw[hH]at hd;cases hd
  ·exact hok.elim
 ·exact hok.elim
theorem vP(hT:fC P T){t:TypeId}(h:(T t).k.isNone=false){b off:Nat}{v:Value}(hl:v.cells.toList.length=(T t).size)(h1:∀u∈v.cells.toList,u.oneCell'=true)
 {cur:Array Value}{e:TypeId}(hblk:w.heap[b]? =some (.cells cur e (0,0)))(hfit:off+v.cells.toList.length<=cur.size):
 (storeVar t ⟨b,off,none⟩ v).run P w=.ok () (w.setRow b (aQ off cur.toList v.cells.toList).toArray):=by
 unfold storeVar;rw[Sem.run_bind,bQ hT h];have hl':v.cells.size=(T t).size:=by simpa using hl
 simp only[Result.andThen_ok,hl',ne_eq,not_true_eq_false,if_false];have:=run_storeCells_at P b off e v.cells.toList 0 cur w hblk (by simpa using hfit) h1;simpa [aQ]using this
theorem dI{α:Type}{off:Nat}{cs new:List α}(h:off+new.length<=cs.length):(aQ off cs new).length=cs.length:=by simp[aQ];omega
theorem eT{α:Type}{off:Nat}{cs new:List α}(h:off+new.length<=cs.length)(i:Nat):(aQ off cs new)[i]? =if i<off then cs[i]? else if i<off+new.length then new[i-off]? else cs[i]? :=by
 unfold aQ;have hl:(cs.take off).length=off:=by simp;omega
 by_cases h1:i<off
 ·rw[if_pos h1,List.append_assoc,List.getElem?_append_left (by omega),List.getElem?_take,if_pos h1]
 ·rw[if_neg h1];by_cases h2:i<off+new.length
  ·rw[if_pos h2,List.getElem?_append_left (by simp;omega),List.getElem?_append_right (by omega),hl]
  ·rw[if_neg h2,List.getElem?_append_right (by simp;omega),List.getElem?_drop];congr 1;simp;omega
theorem vQ{α:Type}{off:Nat}{cs new:List α}{p:α->Prop}(h1:∀x∈cs,p x)(h2:∀x∈new,p x):∀x∈aQ off cs new,p x:=by
 intro x hx;simp only[aQ,List.mem_append]at hx;rcases hx with(hx|hx)|hx
 ·exact h1 x (List.mem_of_mem_take hx)
 ·exact h2 x hx
 ·exact h1 x (List.mem_of_mem_drop hx)
theorem At{α γ:Type}{off:Nat}{cs new:List α}{us vs:List γ}{p:α->γ->Prop}(hl:us.length=cs.length)(hn:vs.length=new.length)(hf:off+new.length<=cs.length)
 (h1:∀(i:Nat) c u,cs[i]? =some c->us[i]? =some u->p c u)(h2:∀(i:Nat) c u,new[i]? =some c->vs[i]? =some u->p c u):
 ∀(i:Nat) c u,(aQ off cs new)[i]? =some c->(aQ off us vs)[i]? =some u->p c u:=by
 intro i c u hc hu;rw[eT hf]at hc;rw[eT (by omega),hn]at hu;split at hc
 ·rename_i h;rw[if_pos h]at hu;exact h1 i c u hc hu
 ·rename_i h;rw[if_neg h]at hu;split at hc
  ·rename_i h';rw[if_pos h']at hu;exact h2 _ c u hc hu
  ·rename_i h';rw[if_neg h']at hu;exact h1 i c u hc hu
theorem oD{r:iO}{w':World}{β':Nat->Option Nat}(hr:(execOp a.eval o).run P w=.ok .skip w')(m:cV w0 X (bP H r.up) β' w')(gg:eY X H β w (bP H r.up) β' w')
 (hv:r.v=.junk):iV P w0 X H β w a o r:=by
 intro K Q hK;unfold Oper.wp;rw[hr];exact hK undef w' β' m gg (by rw[hv];exact .junk _)
theorem Eq(hT:fC P T)(m:cV w0 X H β w)(hg:∀x,R w (Ex X β H) β H (g x) (a.eval x)){t:TypeId}{x y:Operand}(ho:o.op=.store t x y)(ht:(T t).k.isNone=false)
 {id off:Nat}(hx:g x=.bx id off){cs:List LV}(hH:H id=.box false cs){c:Prop}(hok:off+(T t).size<=cs.length/\(cS (g y)).length=(T t).size/\gO H (g y)=true):
 iV P w0 X H β w a o ⟨.junk,c,[(id,.box false (aQ off cs (cS (g y))))]⟩:=by
 have hxv:=hg x;rw[hx]at hxv;generalize hval:a.eval x=vx at hxv;obtain⟨hk1,hk2,hk3⟩:=hok;obtain⟨hc1,hc2⟩:=(hg y).cells hk3;have hc3:=(hg y).cells1 hk3;have hob:=m.obj id;simp only[cP,hH]at hob;obtain⟨b,e,us,hb,hblk,hlen,h1,hp⟩:=hob;cases hxv with
 |bxdead _ _ _ hd=>rw[hH]at hd;cases hd
 |bx _ _ b' _ _ _ hb'=>
  rw[hb]at hb';injection hb' with hb';subst hb'
  have hrun:=vP (P:=P) (w:=w) hT ht (b:=b) (off:=off) (v:=a.eval y) (by omega) hc3 hblk (by rw[List.size_toArray];omega);have hfit:off+(cS (g y)).length<=cs.length:=by omega
  have:=m.rewrite (id:=id) (b:=b) (o':=.box false (aQ off cs (cS (g y)))) (cur':=(aQ off us (a.eval y).cells.toList).toArray) (by rw[hH];rfl) hb hblk
   (by simp only[List.size_toArray];exact dI (by omega)) (.inl ⟨_,_,hH,rfl⟩) (λ_ hR=>by
     unfold cP;rw[aM];refine⟨b,e,_,hb,setRow_heap w b _ _ e (0,0) hblk,by rw[dI (by omega),dI hfit];exact hlen,vQ h1 hc3,?_⟩;exact At hlen hc1 hfit (λi c v hc hv=>hR _ _ (hp i c v hc hv)) (λi c v hc hv=>hR _ _ (hc2 i c v hc hv)))
  refine oD (w':=w.setRow b (aQ off us (a.eval y).cells.toList).toArray) (β':=β) ?_ (by simp only[aR];exact this.1) (by simp only[aR];exact this.2) rfl;simp only[execOp,ho,Instr.storeAt,Instr.sureAddr,hval,Sem.run_bind,Sem.run_pure,Result.andThen_ok,hrun]
theorem Kv{s:Nat}{xs:List DV}(hs:∀x∈xs,(aK x).length=s){k:Nat}(hk:k<xs.length){z:DV}(hz:(aK z).length=s):bB (xs.set k z)=aQ (k*s) (bB xs) (aK z):=by
 induction xs generalizing k with
 |nil=>simp at hk
 |cons x t ih=>
  have hx:=hs x (by simp);cases k with
  |zero=>simp[bB,aQ,hz,<-hx]
  |succ k=>
   have:=ih (λy hy=>hs y (by simp[hy])) (k:=k) (by simpa using hk);simp only[List.set_cons_succ,bB,List.flatMap_cons]at*;rw[this];unfold aQ;have e1:(k+1)*s=(aK x).length+k*s:=by rw[hx,Nat.add_mul];omega
   rw[e1,List.take_length_add_append,Nat.add_assoc,List.drop_length_add_append];simp
theorem pX:∀(n:Nat) (l:LV) (x:DV),close H n l=some x->∀id∈bJ H n l,(H id).live=true:=by
 intro n;induction n with
 |zero=>intro l x h;simp[close]at h
 |succ n ih=>
  intro l x h id hid;have list:∀(cs:List LV) (xs:List DV),cC (cs.map (close H n))=some xs->id∈cs.flatMap (bJ H n)->(H id).live=true:=by
   intro cs xs h hid;obtain⟨h1,h2⟩:=kS h;obtain⟨c,hc,hid⟩:=List.mem_flatMap.1 hid;obtain⟨i,hi,rfl⟩:=List.getElem_of_mem hc;exact ih _ _ (h2 i _ (xs[i]'(by omega)) (List.getElem?_eq_getElem hi) (List.getElem?_eq_getElem (by omega))) id hid
  cases l with
  |agg cs=>
   simp only[close,Option.map_eq_some_iff]at h;obtain⟨xs,h,_⟩:=h;exact list cs xs h (by simpa [bJ]using hid)
  |fn f cs=>
   simp only[close,Option.map_eq_some_iff]at h;obtain⟨xs,h,_⟩:=h;exact list cs xs h (by simpa [bJ]using hid)
  |bm f cs=>
   simp only[close,Option.map_eq_some_iff]at h;obtain⟨xs,h,_⟩:=h;exact list cs xs h (by simpa [bJ]using hid)
  |ow i k m=>
   simp[bJ]at hid;subst hid;simp only[close]at h;cases hH:H id<;>simp_all[aV.live]
  |oc i k m c=>
   simp[bJ]at hid;subst hid;simp only[close]at h;cases hH:H id<;>simp_all[aV.live]
  |mp i=>
   simp[bJ]at hid;subst hid;simp only[close]at h;cases hH:H id<;>simp_all[aV.live]
  |bx i off=>
   simp only[close]at h;simp only[bJ]at hid;cases hH:H i with
   |box fz cs=>
    simp only[hH,Option.map_eq_some_iff]at h;obtain⟨xs,h,_⟩:=h;simp only[hH,List.mem_cons]at hid;rcases hid with rfl|hid
    ·rw[hH];rfl
    ·exact list _ xs h hid
   |_=>simp[hH]at hid
  |_=>simp[bJ]at hid
theorem gC(m:cV w0 X H β w){ids:List Nat}{l:LV}{x:DV}{v:Value}(h:close H 8 l=some x)(hsub:∀id∈bJ H 8 l,id∈ids)(hr:R w (Ex X β H) β H l v):
 RD w (Ex X β (bP H (bF H ids))) x v:=by
 refine rV m.obj (λ_ _=>(m.freeze ids).2.D) 8 l x v h (λid hid b hb he=>?_) hr;have hl:=pX 8 l x h id hid;have hf:=m.fresh id b hl hb;rcases he with he|⟨i,h1,h2⟩
 ·rcases hf.1 with h1|h1
  ·have:=(m.xold.1 b he).1;omega
  ·exact(m.xold.1 b he).2 h1.1
 ·have h3:(H i).live=true:=by
   have:=bV h1;rw[eF]at this;split at this
   ·rwa[yI]at this
   ·exact this
  have:=m.inj i id b h3 hl h2 hb;subst this;rw[eF,if_pos (hsub i hid),Ap]at h1;cases h1
theorem yL(hT:fC P T)(m:cV w0 X H β w)(hg:∀x,R w (Ex X β H) β H (g x) (a.eval x)){t:TypeId}{x y:Operand}(ho:o.op=.store t x y)(ht:(T t).k.isNone=false)
 {id k j:Nat}(hx:g x=.rp id k j){s:Nat}{xs:List DV}(hH:H id=.row false s xs){z:DV}(hz:close H 8 (g y)=some z){c:Prop}(hid:id∉bJ H 8 (g y))(hk:k<xs.length)(hjs:j+(T t).size<=s)
 (hzl:(aK z).length=(T t).size){z':DV}(hz':(aK z').length=s)(hcells:aK z'=aQ j (aK (xs.getD k default)) (aK z)):
 iV P w0 X H β w a o ⟨.junk,c,(id,.row false s (xs.set k z'))::bF H (bJ H 8 (g y))⟩:=by
 have hxv:=hg x;rw[hx]at hxv;generalize hval:a.eval x=vx at hxv;have hH':bP H (bF H (bJ H 8 (g y))) id=.row false s xs:=by rw[eF,if_neg hid];exact hH
 obtain⟨m1,g1⟩:=m.freeze (bJ H 8 (g y));have hyR:=gC m hz (λ_ h=>h) (hg y);obtain⟨hc1,hc2⟩:=hyR.cells;have hc3:=hyR.cells1;have hob:=m1.obj id;simp only[cP,hH']at hob;obtain⟨hpos,hall,hob⟩:=hob;cases hxv with
 |rpdead _ _ _ _ hd=>rw[hH]at hd;cases hd
 |rp _ _ _ b' _ _ _ hH2 hb'=>
  rw[hH]at hH2;injection hH2 with _ e1 e2;subst e1;subst e2
  rcases hob with⟨hn,_⟩|⟨b,e,cur,hb,hblk,hlen,hp⟩
  ·rw[hn]at hb';cases hb'
  ·rw[hb]at hb';injection hb' with hb';subst hb'
   have hks:k*s+s<=xs.length*s:=by have:(k+1)*s<=xs.length*s:=Nat.mul_le_mul_right _ hk;rw[Nat.add_mul,Nat.one_mul]at this;exact this
   have hrun:=vP (P:=P) (w:=w) hT ht (b:=b) (off:=k*s+j) (v:=a.eval y) (by omega) hc3 hblk (by omega);obtain⟨hcl,hcc⟩:=pC hk hall;have hset:bB (xs.set k z')=aQ (k*s+j) (bB xs) (aK z):=by
    have hfl:=flat_len hall;rw[Kv hall hk hz',hcells];apply List.ext_getElem?;intro i;have hpl:(aQ j (aK (xs.getD k default)) (aK z)).length=s:=by rw[dI (by omega)];exact hcl
    have q1:=eT (off:=k*s) (cs:=bB xs) (new:=aQ j (aK (xs.getD k default)) (aK z)) (by omega) i;have q2:=eT (off:=k*s+j) (cs:=bB xs) (new:=aK z) (by omega) i;rw[q1,q2,hpl];by_cases h1:i<k*s
    ·rw[if_pos h1,if_pos (by omega)]
    ·rw[if_neg h1];by_cases h2:i<k*s+s
     ·rw[if_pos (by omega),eT (by omega)];by_cases h3:i<k*s+j
      ·rw[if_pos (by omega),if_pos h3,<-hcc (i-k*s) (by omega)];congr 1;omega
      ·rw[if_neg (by omega),if_neg h3];by_cases h4:i<k*s+j+(aK z).length
       ·rw[if_pos (by omega),if_pos h4];congr 1;omega
       ·rw[if_neg (by omega),if_neg h4,<-hcc (i-k*s) (by omega)];congr 1;omega
     ·rw[if_neg (by omega),if_neg (by omega),if_neg (by omega)]
   have hcs:cur.toList.length=cur.size:=(by simp);have hpl:(aQ (k*s+j) cur.toList (a.eval y).cells.toList).length=cur.size:=by rw[dI (by omega)];exact hcs
   have hps:(aQ (k*s+j) cur.toList (a.eval y).cells.toList).toArray.size=cur.size:=hpl;have:=m1.rewrite (id:=id) (b:=b) (o':=.row false s (xs.set k z')) (cur':=(aQ (k*s+j) cur.toList (a.eval y).cells.toList).toArray) (by rw[hH'];rfl) hb hblk
    hps (.inr ⟨s,xs,_,hH',rfl,by simp⟩) (λhD _=>by
     unfold cP;rw[aM];refine⟨hpos,λq hq=>?_,.inr ⟨b,e,_,hb,setRow_heap w b _ _ e (0,0) hblk,by rw[hps];simpa using hlen,?_⟩⟩
     ·rcases List.mem_or_eq_of_mem_set hq with hq|rfl
      ·exact hall q hq
      ·exact hz'
     ·rw[hset];intro i d v hd hv;have hfl:=flat_len hall;rw[eT (by omega)]at hd;simp only[List.getElem?_toArray]at hv;rw[eT (by omega),hc1]at hv;split at hd
      ·rename_i h;rw[if_pos h]at hv;have:=hp i d v hd (by simpa using hv);exact⟨this.1,hD _ _ this.2⟩
      ·rename_i h;rw[if_neg h]at hv;split at hd
       ·rename_i h';rw[if_pos h']at hv;exact⟨hc3 v (List.mem_of_getElem? hv),hD _ _ (hc2 _ d v hd hv)⟩
       ·rename_i h';rw[if_neg h']at hv;have:=hp i d v hd (by simpa using hv);exact⟨this.1,hD _ _ this.2⟩)
   refine oD (w':=w.setRow b (aQ (k*s+j) cur.toList (a.eval y).cells.toList).toArray) (β':=β) ?_ (by simp only[fN];exact this.1) (by simp only[fN];exact g1.trans this.2) rfl;simp only[execOp,ho,Instr.storeAt,Instr.sureAddr,hval,Sem.run_bind,Sem.run_pure,Result.andThen_ok,hrun]
theorem Kw(hT:fC P T)(m:cV w0 X H β w)(hg:∀x,R w (Ex X β H) β H (g x) (a.eval x)){t:TypeId}{x y:Operand}(ho:o.op=.store t x y)(ht:(T t).k.isNone=false)
 (hok:(gJ H (T t) (g x) (g y)).ok):iV P w0 X H β w a o (gJ H (T t) (g x) (g y)):=by
 cases hx:g x with
 |bx id off=>
  rw[hx]at hok;simp only[gJ]at hok|-;cases hH:H id with
  |box fz cs=>cases fz with
   |false=>rw[hH]at hok;exact Eq hT m hg ho ht hx hH hok
   |true=>rw[hH]at hok;exact hok.elim
  |_=>rw[hH]at hok;exact hok.elim
 |rp id k j=>
  rw[hx]at hok;simp only[gJ]at hok|-;cases hH:H id with
  |row fz s xs=>cases fz with
   |false=>
    rw[hH]at hok;simp only at hok|-;cases hz:close H 8 (g y)with
    |none=>rw[hz]at hok;exact hok.elim
    |some z=>
     rw[hz]at hok;simp only at hok|-;have hob:=m.obj id;simp only[cP,hH]at hob;obtain⟨hpos,hall,_⟩:=hob;by_cases hj:j=0/\(T t).size=s
     ·rw[if_pos hj]at hok|-;obtain⟨h1,h2,h3⟩:=hok;obtain⟨hcl,_⟩:=pC h1 hall;obtain⟨hj0,hjs⟩:=hj;subst hj0;refine yL hT m hg ho ht hx hH hz h3 h1 (by omega) (by omega) h2 ?_;unfold aQ;rw[List.drop_eq_nil_of_le (by omega)];simp
     ·rw[if_neg hj]at hok|-;obtain⟨h1,h2,h3,h4,h5⟩:=hok;obtain⟨hcl,_⟩:=pC h1 hall;exact yL hT m hg ho ht hx hH hz h5 h1 h2 h3 (by show(aQ j (aK (xs.getD k default)) (aK z)).length=s;rw[dI (by omega)];exact hcl) rfl
   |true=>rw[hH]at hok;exact hok.elim
  |_=>rw[hH]at hok;exact hok.elim
 |_=>rw[hx]at hok;exact hok.elim
end
end
end Go.Eng
