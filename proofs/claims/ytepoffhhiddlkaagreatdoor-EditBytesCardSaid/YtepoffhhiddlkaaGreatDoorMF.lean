/- Part 6 of the proof. No condition. -/
import Derived.Test.YtepoffhhiddlkaaGreatDoorME
import Derived.Shelf.SlSortCmp.NoneTotal
import Derived.Shelf.SlGeneric
import Derived.Test.YtepoffhhiddlkaaGreatDoorProg
import Derived.RangeFuncNested
import Derived.Maps.RangeRun
import Derived.Shelf.SlIter.Collect
import Derived.Shelf.SortM.Plain
import Derived.Shelf.SortM.SortNone
open Go.Proofs
set_option linter.unusedVariables false
set_option linter.unusedSimpArgs false
set_option maxRecDepth 20000
set_option maxHeartbeats 4000000
namespace Go.Eng
def fO{α:Type}[DecidableEq α]:List α->List α
 |a::b::r=>if a=b then fO (b::r)else a::fO (b::r)
 |l=>l
theorem Bi{α:Type}[DecidableEq α]:∀(l:List α) (x:α) (h:l≠[]),fO (l++[x])=if l.getLast h=x then fO l else fO l++[x]
 |[a],x,_=>by
  simp only[List.cons_append,List.nil_append,fO,List.getLast_singleton];split<;>rename_i e<;>simp[e]
 |a::b::r,x,_=>by
  have ih:=Bi (b::r) x (by simp);have hl:(a::b::r).getLast (by simp)=(b::r).getLast (by simp):=by simp
  rw[hl];simp only[List.cons_append]at ih|-;simp only[fO];rw[ih];by_cases h1:a=b
  ·simp only[if_pos h1]
  ·simp only[if_neg h1];split<;>rfl
theorem Jv{α:Type}{l:List α}{p:Nat}(h0:0<p)(hp:p<=l.length)(hne:l.take p≠[]):(l.take p).getLast hne=l[p-1]:=by
 rw[List.getLast_eq_getElem];simp[Nat.min_eq_left hp]
theorem qN{α:Type}[DecidableEq α]{l:List α}{p:Nat}(h0:0<p)(hp:p<l.length):fO (l.take (p+1))=if l[p-1]=l[p]then fO (l.take p)else fO (l.take p)++[l[p]]:=by
 have hne:l.take p≠[]:=λe=>by have:=congrArg List.length e;rw[List.length_take,List.length_nil]at this;omega
 have h1:l.take (p+1)=l.take p++[l[p]]:=by simp
 rw[h1,Bi _ _ hne,Jv h0 (by omega)]
theorem wJ{α:Type}[DecidableEq α]:∀l:List α,(fO l).length<=l.length
 |a::b::r=>by
  have:=wJ (b::r);simp only[fO];split
  ·simp at*;omega
  ·simp at*;omega
 |[]=>Nat.le_refl _
 |[_]=>Nat.le_refl _
theorem xP{α:Type}[DecidableEq α]{x:α}:∀l:List α,x∈fO l↔x∈l
 |a::b::r=>by
  have:=xP (x:=x) (b::r);simp only[fO];split
  ·rename_i e;rw[this];subst e;simp
  ·rw[List.mem_cons,this];simp
 |[]=>Iff.rfl
 |[_]=>Iff.rfl
def kY{α:Type}(lt:α->α->Bool)(l:List α):Prop:=l.Pairwise λa b=>lt a b=true
structure Pm{α:Type}(lt:α->α->Bool):Prop where
 irrefl:∀a,lt a a=false
 trans:∀a b c,lt a b=true->lt b c=true->lt a c=true
 total:∀a b,lt a b=false->lt b a=false->a=b
theorem Pm.asym{α:Type}{lt:α->α->Bool}(O:Pm lt){a b:α}(h:lt a b=true):lt b a=false:=by
 cases q:lt b a with
 |false=>rfl
 |true=>have:=O.trans a b a h q;rw[O.irrefl]at this;cases this
theorem xQ{α:Type}{lt:α->α->Bool}(O:Pm lt):∀{l m:List α},kY lt l->kY lt m->(∀x,x∈l↔x∈m)->l=m
 |[],[],_,_,_=>rfl
 |[],b::m,_,_,h=>by have:=(h b).2 (by simp);cases this
 |a::l,[],_,_,h=>by have:=(h a).1 (by simp);cases this
 |a::l,b::m,hl,hm,h=>by
  have hl':=List.pairwise_cons.1 hl;have hm':=List.pairwise_cons.1 hm;have hab:a=b:=by
   have h1:=(h a).1 (by simp);have h2:=(h b).2 (by simp);rcases List.mem_cons.1 h1 with h1|h1
   ·exact h1
   ·rcases List.mem_cons.1 h2 with h2|h2
    ·exact h2.symm
    ·have:=O.asym (hl'.1 b h2);rw[hm'.1 a h1]at this;cases this
  subst hab;rw[xQ O hl'.2 hm'.2 λx=>?_];constructor
  ·intro hx;rcases List.mem_cons.1 ((h x).1 (by simp[hx]))with e|h'
   ·subst e;have:=hl'.1 x hx;rw[O.irrefl]at this;cases this
   ·exact h'
  ·intro hx;rcases List.mem_cons.1 ((h x).2 (by simp[hx]))with e|h'
   ·subst e;have:=hm'.1 x hx;rw[O.irrefl]at this;cases this
   ·exact h'
theorem wK{α:Type}[DecidableEq α]{lt:α->α->Bool}(O:Pm lt):∀{l:List α},l.Pairwise (λa b=>lt b a=false)->kY lt (fO l)
 |[],_=>.nil
 |[_],_=>List.pairwise_singleton _ _
 |a::b::r,h=>by
  have h':=List.pairwise_cons.1 h;have ih:=wK O h'.2;simp only[fO];split
  ·exact ih
  ·rename_i hne;refine List.pairwise_cons.2 ⟨λx hx=>?_,ih⟩;have hx:=(xP _).1 hx;have h1:=h'.1 b (by simp);have hab:lt a b=true:=by
    cases q:lt a b with
    |true=>rfl
    |false=>exact absurd (O.total a b q h1) hne
   rcases List.mem_cons.1 hx with rfl|hx
   ·exact hab
   ·have h2:=(List.pairwise_cons.1 h'.2).1 x hx;cases q:lt b x with
    |true=>exact O.trans _ _ _ hab q
    |false=>have:=O.total b x q h2;subst this;exact hab
theorem DG:Pm Nm.less:=by
 refine⟨λa=>?_,λa b c h1 h2=>?_,λa b h1 h2=>?_⟩
 ·simp[Nm.less]
 ·simp[Nm.less]at*;omega
 ·cases a;cases b;simp[Nm.less]at*;omega
theorem CF{α:Type}{k:Nat}{x y:α}{out:List α}:y∈nE k x out↔y=x\/y∈out:=by
 unfold nE;rw[List.mem_append,List.mem_cons]
 conv=>rhs;rw[<-List.take_append_drop k out,List.mem_append]
 constructor
 ·rintro(h|h|h)<;>simp[h]
 ·rintro(h|h|h)<;>simp[h]
theorem xR{α:Type}{p:α->Bool}{out:List α}:∀k,k<=out.length->(∀i (h:i<out.length),nW p out k<=i->i<k->p out[i]=true)/\(∀i (h:i<out.length),nW p out k=i+1->p out[i]=false)
 |0,_=>⟨λi _ _ h=>by omega,λi _ h=>by simp[nW]at h⟩
 |k+1,hk=>by
  have hlt:k<out.length:=by omega
  obtain⟨h1,h2⟩:=xR k (by omega) (p:=p) (out:=out);cases q:p out[k]with
  |true=>
   rw[Ic hlt q];refine⟨λi hi hle hik=>?_,h2⟩;by_cases e:i=k
   ·subst e;exact q
   ·exact h1 i hi hle (by omega)
  |false=>
   have:nW p out (k+1)=k+1:=CA λi e hi=>by
    have:i=k:=(by omega);subst this;exact q
   rw[this];exact⟨λi _ h1 h2=>by omega,λi hi e=>by
    have:i=k:=(by omega);subst this;exact q⟩
theorem Hm{α:Type}{lt:α->α->Bool}(O:Pm lt){out:List α}{x:α}(h:kY lt out)(hx:x∉out):kY lt (nE (nW (λy=>lt x y) out out.length) x out):=by
 obtain⟨h1,h2⟩:=xR (p:=λy=>lt x y) (out:=out) out.length (Nat.le_refl _);have hle:=DB (p:=λy=>lt x y) (out:=out) out.length;generalize nW (λy=>lt x y) out out.length=k at*;have hout:=List.pairwise_iff_getElem.1 h;have below:∀i (hi:i<out.length),i<k->lt out[i] x=true:=by
  intro i hi hik;have hk1:k-1<out.length:=by omega
  have:=h2 (k-1) hk1 (by omega);have hlast:lt out[k-1] x=true:=by
   cases q:lt out[k-1] x with
   |true=>rfl
   |false=>exact absurd (O.total _ _ this q) (λe=>hx (e▸List.getElem_mem hk1))
  by_cases e:i=k-1
  ·subst e;exact hlast
  ·exact O.trans _ _ _ (hout i (k-1) hi hk1 (by omega)) hlast
 unfold nE;refine List.pairwise_append.2 ⟨h.sublist (List.take_sublist _ _),List.pairwise_cons.2 ⟨λy hy=>?_,h.sublist (List.drop_sublist _ _)⟩,λy hy z hz=>?_⟩
 ·obtain⟨i,hi,rfl⟩:=List.getElem_of_mem hy;simp at hi;simp only[List.getElem_drop];exact h1 (k+i) (by omega) (by omega) (by omega)
 ·obtain⟨i,hi,rfl⟩:=List.getElem_of_mem hy;simp at hi;simp only[List.getElem_take];rcases List.mem_cons.1 hz with rfl|hz
  ·exact below i (by omega) (by omega)
  ·obtain⟨j,hj,rfl⟩:=List.getElem_of_mem hz;simp at hj;simp only[List.getElem_drop];exact hout i (k+j) (by omega) (by omega) (by omega)
theorem dC(l:List Nm):kY Nm.less (aY l)/\∀x,x∈aY l↔x∈l:=by
 unfold aY;have key:∀(l out:List Nm),kY Nm.less out->kY Nm.less (l.foldl nG out)/\∀x,x∈l.foldl nG out↔x∈out\/x∈l:=by
  intro l;induction l with
  |nil=>intro out h;exact⟨h,λx=>by simp⟩
  |cons a l ih=>
   intro out h;simp only[List.foldl_cons];rw[show nG out a=if a∈out then out else nE (nW (λy=>a.less y) out out.length) a out from rfl];by_cases ha:a∈out
   ·rw[if_pos ha];obtain⟨h1,h2⟩:=ih out h;refine⟨h1,λx=>?_⟩;rw[h2 x,List.mem_cons];constructor
    ·rintro(h|h)<;>simp[h]
    ·rintro(h|rfl|h)
     ·exact .inl h
     ·exact .inl ha
     ·exact .inr h
   ·rw[if_neg ha];obtain⟨h1,h2⟩:=ih _ (Hm DG h ha);refine⟨h1,λx=>?_⟩;rw[h2 x,CF,List.mem_cons];constructor
    ·rintro((rfl|h)|h)<;>simp[*]
    ·rintro(h|rfl|h)<;>simp[*]
 obtain⟨h1,h2⟩:=key l [] .nil;exact⟨h1,λx=>by rw[h2 x];simp⟩
theorem DH{l s:List Nm}(hm:∀x,x∈s↔x∈l)(hs:s.Pairwise (λa b=>Nm.less b a=false)):fO s=aY l:=by
 obtain⟨h1,h2⟩:=dC l;exact xQ DG (wK DG hs) h1 λx=>by rw[xP,hm,h2]
def jY(l:List Ed)(set:List Nm)(n:Nm):Bool:= !(decide (bM l n<0))&&(aX l n).all λm=>decide (m∈set)
def eJ(l:List Ed)(set:List Nm):Bool:=set.all (jY l set)
theorem uL{l:List Ed}{set:List Nm}{i:Nat}(h:i<set.length)(e:jY l set set[i]=false):eJ l set=false:=List.all_eq_false.2 ⟨_,List.getElem_mem h,by simp[e]⟩
theorem DI{l:List Ed}{set:List Nm}{i:Nat}(hi:AY (λn=> !jY l set n) set i)(h:set.length<=i):eJ l set=true:=List.all_eq_true.2 λx hx=>by
 have:=List.any_eq_false.1 (hi.any h) x hx;simpa using this
section
attribute[local simp] bA bW aQ aZ
theorem Ho(l:List Nm)(n:Nm):Ok Tryz.prog 145 [n.d,.ro [bY l]] ⟨.d (.bool (!decide (n∈l))),true⟩:=by
 refine bE Tryz.func145 rfl Tryz.ntmps145 Tryz.results145 λw0 X hp=>?_;refine aA ?_;simp;refine aS hT hW (λ|6=>some<| .plain ⟨.d (.bool (decide (n∈l))),true⟩|_=>none) ?_;simp;refine⟨Ih l n,?_⟩;refine aN ?_;simp
theorem qO(l:List Ed)(set:List Nm):Ok Tryz.prog 76 [bT l,bY set] ⟨.d (.bool (eJ l set)),true⟩:=by
 refine bE Tryz.func76 rfl Tryz.ntmps76 Tryz.results76 λw0 X hp=>?_;refine eG.len (t:=1) rfl λhlen=>?_;simp at hlen;refine aA ?_;simp;refine aB ?_;refine aA ?_;simp;refine aF ?_;refine aJ (ι:=Nat) (λi=>aU [(0,.d (bT l)),(3,.bx 3 0),(8,.d (bY set)),(9,.d (aT set.length)),(10,.d (aT i))]) (λi=>aL [(3,.box false [.d (bY set)])]) (λi=>i<=set.length/\AY (λn=> !jY l set n) set i) (λi=>set.length-i) 0 (aC hp [0,3,8,9,10] [(3,3)]) (⟨Nat.zero_le _,AY.zero⟩) λi hi2=>?_;refine aA ?_;simp;refine aB ?_;refine aD ?_;simp;refine⟨λh2=>?_,λh2=>?_⟩
 ·refine aH ?_;simp;refine aB ?_;refine aF ?_;refine aA ?_;simp[h2];refine aS hT hW (λ|16=>some<| .plain ⟨.d (aT (bM l set[i])),true⟩|_=>none) ?_;simp;refine⟨jX l set[i],?_⟩;refine aB ?_;rcases Int.lt_or_le (bM l set[i]) 0 with hneg|hneg
  ·refine Dm hT hW (λ_=>none) (by intro d;first|exact⟨rfl,λ_ h=>h⟩|(split<;>exact⟨rfl,λ_ h=>h⟩)) ?_;simp[hneg];refine aD ?_;simp[hneg];refine aA ?_;simp;refine aN ?_;simp;exact uL h2 (by simp[jY,hneg])
  ·obtain⟨i0,hi0,hfi,hfe,hne⟩:=xM (show¬bM l set[i]<0 by omega);refine eG.ro hT hW (λ|26=>some<| .plain ⟨.d (.bool (l[i0].needs.any λm=> !decide (m∈set))),true⟩|_=>none) ?_;simp[hfe,hi0];refine⟨wI _ _ _ _ λn _=>Ho set n,?_⟩;refine aD ?_;simp;refine⟨λh5=>?_,λh5=>?_⟩
   ·refine aA ?_;simp;refine aN ?_;simp;refine uL h2 ?_;have:¬bM l set[i]<0:=by omega
    simp[jY,this,hne];rcases h5 with h|h
    ·omega
    ·exact h
   ·refine aH ?_;simp;refine aG ?_;simp;refine⟨by omega,?_⟩;refine aI (i+1) (aC hp [0,3,8,9,10] [(3,3)]) ?_ ?_
    ·refine⟨h2,hi2.2.succ h2 ?_⟩;have:¬bM l set[i]<0:=by omega
     simp[jY,this,hne];exact h5
    ·omega
 ·refine aO ?_;simp;refine aA ?_;simp;refine aN ?_;simp;exact DI hi2.2 h2
theorem Bj(l:List Nm)(hl:l.length<=8000000000000):Ok Tryz.prog 60 [bY l] ⟨.own 2 (l.map Nm.d),true⟩:=by
 refine bE Tryz.func60 rfl Tryz.ntmps60 Tryz.results60 λw0 X hp=>?_;refine aA ?_;simp;refine aB ?_;refine aB ?_;refine GW hT hW 4 (decide (l=[])) (λ_=>none) (λ_=>⟨rfl,λ_ h=>h⟩) (by kernel_rfl) λb1 hb1=>?_;simp;refine aD ?_;simp;refine⟨λh1=>?_,λh1=>?_⟩
 ·refine aA ?_;simp;refine aN ?_;have:=hb1 h1;simp at this;simp[this]
 ·refine aH ?_;simp;refine aA ?_;simp;refine⟨by omega,?_⟩;refine aN ?_;simp
theorem NE{b t:List DV}{n k:Nat}(hn:b.length=n)(hk:k<n)(z:DV):
 List.take (n-1) (List.take k (b++t)++(List.take (n-(k+1)) (List.drop (k+1) (b++t))++List.drop (k+(n-(k+1))) (b++t)))++z::List.drop (n-1+1) (List.take k (b++t)++(List.take (n-(k+1)) (List.drop (k+1) (b++t))++List.drop (k+(n-(k+1))) (b++t)))=b.eraseIdx k++z::t:=by
 have e0:List.take k (b++t)=List.take k b:=by rw[List.take_append_of_le_length (by omega)]
 have e1:List.take (n-(k+1)) (List.drop (k+1) (b++t))=List.drop (k+1) b:=by
  rw[List.drop_append_of_le_length (by omega),List.take_append_of_le_length (by simp;omega),List.take_of_length_le (by simp;omega)]
 have e2:List.drop (k+(n-(k+1))) (b++t)=List.drop (n-1) b++t:=by
  rw[show k+(n-(k+1))=n-1 by omega,List.drop_append_of_le_length (by omega)]
 rw[e0,e1,e2,<-List.append_assoc,<-List.eraseIdx_eq_take_drop_succ];have hl:(b.eraseIdx k).length=n-1:=by rw[List.length_eraseIdx];simp[hn,hk]
 rw[List.take_append_of_le_length (by omega),List.take_of_length_le (by omega),<-List.append_assoc,List.drop_append_of_le_length (by simp[hl,hn];omega),List.drop_eq_nil_of_le (by simp[hl,hn];omega),List.nil_append]
theorem xS{α β:Type}(f:α->β)(l:List α)(k:Nat):(l.map f).eraseIdx k=(l.eraseIdx k).map f:=by
 rw[List.eraseIdx_eq_take_drop_succ,List.eraseIdx_eq_take_drop_succ,List.map_append,List.map_take,List.map_drop]
theorem OR{l:List Nm}{t:List DV}(ht:∀y∈t,(aK y).length=2){n k:Nat}:(∀y∈List.take n (List.drop k (List.map Nm.d l++t)),(aK y).length=2)↔True:=iff_true_intro λy hy=>by
 rcases List.mem_append.1 (sH hy)with h|h
 ·exact(Dz h).1
 ·exact ht y h
theorem Fe(l:List Nm)(t:List DV)(ht:∀y∈t,(aK y).length=2)(k:Nat)(hk:k<l.length):BO Tryz.prog 214 [.ow 0 0 l.length,.d (aT k),.d (aT (k+1))] [(0,.row false 2 (l.map Nm.d++t))] [(0,.row false 2 ((l.eraseIdx k).map Nm.d++Nm.d ⟨0,0⟩::t))] (.ow 0 0 (l.length-1)):=by
 refine DC Tryz.func214 rfl Tryz.ntmps214 Tryz.results214 λw0 X hp=>?_;refine aA ?_;simp;refine aS hT hW (λ|13=>some .inp|_=>none) ?_;simp;refine⟨by omega,?_⟩;refine aB ?_;refine aA ?_;simp[(show¬((k:Int)=(k:Int)+1)by omega)];refine aD ?_;simp;refine aH ?_;simp;refine aA ?_;simp;refine aB ?_;refine bI [] [[],[],[],[],[],[],[0,26]] (λ|26=>some .inp|_=>none) ?_;simp[(show((l.length:Int)-((k:Int)+1)).toNat=l.length-(k+1)by omega),(show l.length-(k+1)<=l.length+t.length-(k+1)by omega),OR ht];refine⟨by omega,?_⟩;refine aA ?_;simp[(show((k:Int)+((l.length-(k+1):Nat):Int)).toNat=l.length-1 by omega),(show((l.length:Int)-((k:Int)+((l.length-(k+1):Nat):Int))).toNat=1 by omega)];refine⟨by omega,?_⟩;refine aA ?_;simp;refine aN ?_;simp;refine aC hp [6] [(0,0)] ?_ ?_
 ·simp[show k+(l.length-(k+1))=l.length-1 by omega]
 ·simp;rw[NE (by simp) hk,xS]
def xT:Nm:=⟨0,0⟩
theorem Jw{l:List Nm}:fO (l.take 1)=l.take 1:=by cases l<;>simp[fO]
theorem zD{l:List Nm}(h:l.length<2):fO l=l:=by
 match l,h with
 |[],_=>rfl
 |[_],_=>rfl
theorem Bk{α:Type}{a b:List α}{p i:Nat}(h:a.drop p=b.drop p)(hp:p<=i)(ha:i<a.length)(hb:i<b.length):a[i]=b[i]:=by
 have h1:=congrArg (·[i-p]?) h;simp only[List.getElem?_drop,show p+(i-p)=i by omega,List.getElem?_eq_getElem ha,List.getElem?_eq_getElem hb]at h1;exact Option.some.inj h1
theorem DJ(l:List Nm)(hl:l.length<=8000000000000):BO Tryz.prog 63 [.ow 0 0 l.length] [(0,.row false 2 (l.map Nm.d))] [(0,.row false 2 ((fO l).map Nm.d++List.replicate (l.length-(fO l).length) xT.d))] (.ow 0 0 (fO l).length):=by
 refine DC Tryz.func63 rfl Tryz.ntmps63 Tryz.results63 λw0 X hp=>?_;refine aA ?_;simp;refine aB ?_;refine aA ?_;simp;refine aD ?_;simp;refine⟨λh1=>?_,λh1=>?_⟩
 ·refine aA ?_;simp;refine aN ?_;simp;refine aC hp [2] [(0,0)] ?_ ?_
  ·simp[zD (by omega:l.length<2)]
  ·simp[zD (by omega:l.length<2)]
 ·refine aH ?_;simp;refine aB ?_;refine aA ?_;simp;refine aF ?_;refine aJ (ι:=Nat) (λk=>aU [(0,.ow 0 0 l.length),(3,.d (aT k))]) (λk=>aL [(0,.row false 2 (l.map Nm.d))]) (λk=>1<=k/\k<=l.length/\fO (l.take k)=l.take k) (λk=>l.length-k) 1 (aC hp [0,3] [(0,0)]) (⟨by omega,by omega,Jw⟩) λk hi4=>?_;refine aB ?_;refine aA ?_;simp;refine aD ?_;simp;refine⟨λh4=>?_,λh4=>?_⟩
  ·refine aH ?_;simp;refine aB ?_;refine aF ?_;refine aB ?_;refine bI [] [] (λ_=>none) ?_;simp[(show((k:Int)- 1).toNat=k-1 by omega),h4,(show k-1<l.length by omega)];refine⟨by omega,?_⟩;refine aD ?_;simp;refine⟨λh6=>?_,λh6=>?_⟩
   ·refine aA ?_;simp;refine⟨by omega,?_⟩;refine aB ?_;refine aA ?_;simp;refine aF ?_;refine aJ (ι:=Nat×Nat×List Nm) (λ⟨q,k',r⟩=>aU [(0,.ow 0 0 l.length),(3,.d (aT k')),(4,.ow 0 k (l.length-k)),(5,.d (aT q))]) (λ⟨q,k',r⟩=>aL [(0,.row false 2 (r.map Nm.d))]) (λ⟨q,k',r⟩=>1<=q/\k+q<=l.length/\1<=k'/\k'+1<=k+q/\r.length=l.length/\r.take k'=fO (l.take (k+q))/\r.drop (k+q-1)=l.drop (k+q-1)) (λ⟨q,k',r⟩=>l.length-k-q) (1,k,l) (aC hp [0,3,4,5] [(0,0)]) (⟨by omega,by omega,by omega,by omega,rfl,by rw[qN (by omega) h4,if_pos h6.symm,hi4.2.2],rfl⟩) λ⟨q,k',r⟩ hi9=>?_;refine aB ?_;refine aA ?_;simp;refine aD ?_;simp;refine⟨λh9=>?_,λh9=>?_⟩
    ·refine aH ?_;simp;refine aB ?_;refine aF ?_;refine aB ?_;obtain⟨g1,g2,g3,g4,g5,g6,g7⟩:=hi9;have hq:k+q<l.length:=by omega
     have e1:r[k+q]'(by omega)=l[k+q]:=Bk g7 (by omega) (by omega) hq;have e2:r[k+(q-1)]'(by omega)=l[k+(q-1)]:=Bk g7 (by omega) (by omega) (by omega);refine bI [] [] (λ_=>none) ?_;simp[(show((q:Int)- 1).toNat=q-1 by omega),(show k+q<r.length by omega),(show k+(q-1)<r.length by omega),e1,e2];refine⟨by omega,?_⟩;refine aD ?_;simp;refine⟨λh11=>?_,λh11=>?_⟩
     ·refine aA ?_;simp[(show k+q<r.length by omega),e1];refine⟨by omega,?_⟩;refine aG ?_;simp;refine⟨by omega,?_⟩;refine aG ?_;simp;refine⟨by omega,?_⟩;refine aI (q+1,k'+1,r.set k' l[k+q]) (aC hp [0,3,4,5] [(0,0)]) ?_ ?_
      ·have hk':k'<r.length:=(by omega);have e3:¬l[k+q-1]=l[k+q]:=λe=>h11 (by rw[<-e];congr 1;omega);dsimp only;refine⟨by omega,by omega,by omega,by omega,by simp[g5],?_,?_⟩
       ·rw[List.take_succ_eq_append_getElem (by simpa using hk'),List.getElem_set_self,List.take_set_of_le (by omega),g6,<-Nat.add_assoc,qN (by omega) hq,if_neg e3]
       ·have g8:=congrArg (List.drop 1) g7;rw[List.drop_drop,List.drop_drop,show k+q-1+1=k+q by omega]at g8;rw[show k+(q+1)- 1=k+q by omega,List.drop_set_of_lt (by omega),g8]
      ·omega
     ·refine aH ?_;simp;refine aG ?_;simp;refine⟨by omega,?_⟩;refine aI (q+1,k',r) (aC hp [0,3,4,5] [(0,0)]) ?_ ?_
      ·have e3:l[k+q-1]=l[k+q]:=by rw[h11];congr 1;omega
       dsimp only;refine⟨by omega,by omega,by omega,by omega,g5,?_,?_⟩
       ·rw[g6,<-Nat.add_assoc,qN (by omega) hq,if_pos e3]
       ·have g8:=congrArg (List.drop 1) g7;rw[List.drop_drop,List.drop_drop,show k+q-1+1=k+q by omega]at g8;rw[show k+(q+1)- 1=k+q by omega,g8]
      ·omega
    ·refine aO ?_;simp;refine aA ?_;simp;refine⟨by omega,?_⟩;refine aA ?_;simp;refine⟨by omega,?_⟩;refine aN ?_;simp;obtain⟨g1,g2,g3,g4,g5,g6,g7⟩:=hi9;have hq:k+q=l.length:=by omega
     rw[hq,List.take_length]at g6;have hkl:(fO l).length=k':=by rw[<-g6];simp;omega
     refine aC hp [2] [(0,0)] ?_ ?_
     ·simp[hkl]
     ·have hd:List.drop (k'+(l.length-k')) (List.map Nm.d r)=[]:=List.drop_eq_nil_of_le (by simp;omega);simp;rw[hd,hkl,<-g6,List.map_take,List.append_nil];rfl
   ·refine aH ?_;simp;refine aG ?_;simp;refine⟨by omega,?_⟩;refine aI (k+1) (aC hp [0,3] [(0,0)]) ?_ ?_
    ·have e6:¬l[k-1]=l[k]:=λe=>h6 e.symm;exact⟨by omega,h4,by rw[qN (by omega) h4,if_neg e6,hi4.2.2];simp⟩
    ·omega
  ·refine aO ?_;simp;refine aA ?_;simp;refine aN ?_;simp;have q:k=l.length:=by omega
   have e:=hi4.2.2;rw[q,List.take_length]at e;refine aC hp [2] [(0,0)] ?_ ?_
   ·simp[e]
   ·simp[e]
end
def NF(l:List Ed):Prop:=∀n,¬lV l n n
def kZ(l:List Ed)(out:List Nm)(n:Nm):Bool:=(aX l n).all λm=>decide (m∈out)
def lZ(l:List Ed):Nat->List Nm->List Nm->List Nm
 |0,_,out=>out
 |f+1,rest,out=>match rest.findIdx? (kZ l out)with
  |some k=>lZ l f (rest.eraseIdx k) (out++[rest.getD k default])
  |none=>out
def lA(l:List Ed)(set:List Nm):List Nm:=lZ l (aY set).length (aY set) []
theorem sO{l:List Ed}{f:Nat}{rest out:List Nm}{k:Nat}(h:rest.findIdx? (kZ l out)=some k)(hk:k<rest.length):lZ l (f+1) rest out=lZ l f (rest.eraseIdx k) (out++[rest[k]]):=by
 simp only[lZ,h];simp[hk]
def PX(l:List Ed)(n:Nm):Nat:=((bC l).filter λx=>decide (x∈bZ l n)).length
theorem OS{l:List Ed}{n m:Nm}(h:m∈aX l n)(ha:¬lV l m m):PX l m<PX l n:=
 xL (m:=m) (λx hx=>by simp[jB]at hx|-;exact .next h hx) (mP h) (by simp[jB];exact .one h) (by simp[jB,ha])
theorem Ff{l:List Ed}(ha:NF l){rest out:List Nm}(hc:∀n∈rest,∀m∈aX l n,m∈rest\/m∈out):∀(d:Nat) (n:Nm),n∈rest->PX l n<d->∃x∈rest,kZ l out x=true
 |0,_,_,h=>absurd h (Nat.not_lt_zero _)
 |d+1,n,hn,hd=>by
  cases q:kZ l out n with
  |true=>exact⟨n,hn,q⟩
  |false=>
   unfold kZ at q;obtain⟨m,hm,hmo⟩:=List.all_eq_false.1 q;have hmo:m∉out:=by simpa using hmo
   have hmr:m∈rest:=(hc n hn m hm).resolve_right hmo;exact Ff ha hc d m hmr (by have:=OS hm (ha m);omega)
theorem LE{l:List Ed}(ha:NF l){rest out:List Nm}(hc:∀n∈rest,∀m∈aX l n,m∈rest\/m∈out)(h0:0<rest.length):∃k,rest.findIdx? (kZ l out)=some k/\k<rest.length:=by
 obtain⟨x,hx,hr⟩:=Ff ha hc (PX l (rest[0])+1) rest[0] (List.getElem_mem h0) (Nat.lt_succ_self _);cases q:rest.findIdx? (kZ l out)with
 |none=>rw[List.findIdx?_eq_none_iff]at q;have:=q x hx;rw[hr]at this;cases this
 |some k=>exact⟨k,rfl,(List.findIdx?_eq_some_iff_getElem.1 q).1⟩
theorem Fg{l:List Ed}{rest out:List Nm}(hc:∀n∈rest,∀m∈aX l n,m∈rest\/m∈out){k:Nat}(hk:k<rest.length):
 ∀n∈rest.eraseIdx k,∀m∈aX l n,m∈rest.eraseIdx k\/m∈out++[rest[k]]:=by
 intro n hn m hm;have hn':n∈rest:=List.mem_of_mem_eraseIdx hn;rcases hc n hn' m hm with h|h
 ·by_cases e:m=rest[k]
  ·exact .inr (by simp[e])
  ·refine .inl (List.mem_eraseIdx_iff_getElem.2 ?_);obtain⟨i,hi,rfl⟩:=List.getElem_of_mem h;exact⟨i,hi,λe'=>e (by subst e';rfl),rfl⟩
 ·exact .inr (by simp[h])
theorem wM{l:List Ed}:∀(r:List Ed) (i:Nat),(dW l r i).2=0->∀(j:Nat) (h:j<r.length),kX l (i+j) r[j]=0
 |[],_,_,j,h=>absurd h (Nat.not_lt_zero _)
 |e::r,i,hv,j,h=>by
  simp only[dW]at hv;split at hv
  ·rename_i he;cases j with
   |zero=>simpa using he
   |succ j=>have:=wM r (i+1) hv j (by simpa using h);simpa [Nat.add_assoc,Nat.add_comm 1]using this
  ·rename_i he;exact absurd hv he
theorem tN{l:List Ed}(h:(cT l).2=0):l.length<=64/\∀(j:Nat) (hj:j<l.length),kX l j l[j]=0:=by
 unfold cT at h;split at h
 ·cases h
 ·rename_i hl;exact⟨by omega,λj hj=>by have:=wM l 0 h j hj;simpa using this⟩
theorem CG{l:List Ed}{i:Nat}{e:Ed}(h:kX l i e=0):dA e=true/\(i:Int)<=bM l e.name/\(∀n∈e.needs,0<=bM l n)/\e.name∉bZ l e.name:=by
 unfold kX at h;split at h
 ·cases h
 ·rename_i h1;split at h
  ·cases h
  ·rename_i h2;split at h
   ·cases h
   ·rename_i h3;split at h
    ·cases h
    ·rename_i h4;refine⟨by simpa using h1,by omega,λn hn=>?_,h4⟩;have:=List.any_eq_false.1 (by simpa using h3:(e.needs.any λn=>decide (bM l n<0))=false) n hn;simp at this;exact this
theorem Aa{l:List Ed}{n:Nm}{i:Nat}(h:find? l n=some i):∃hi:i<l.length,l[i].name=n/\aX l n=l[i].needs:=by
 unfold find? at h;obtain⟨hi,h1,_⟩:=List.findIdx?_eq_some_iff_getElem.1 h;refine⟨hi,by simpa using h1,?_⟩;unfold aX find?;rw[h];simp[hi]
theorem Bl{l:List Ed}(h:(cT l).2=0):NF l:=by
 obtain⟨_,he⟩:=tN h;intro n hr;have hne:aX l n≠[]:=by
  cases hr with
  |one h=>exact List.ne_nil_of_mem h
  |next h _=>exact List.ne_nil_of_mem h
 cases q:find? l n with
 |none=>exact hne (by unfold aX;rw[q])
 |some i=>
  obtain⟨hi,e1,_⟩:=Aa q;have:=(CG (he i hi)).2.2.2;rw[e1]at this;exact this (jB.2 hr)
def xU(l:List Ed)(set:List Nm):List Nm×Int:=if(cT l).2≠0 then([],(cT l).2)else if eJ l set=false then([],10)else(lA l set,0)
def sP(l:List Ed)(set:List Nm):List Nm×Int:=if eJ l (set++set.flatMap (bZ l))=false then([],6)else(aY (set++set.flatMap (bZ l)),0)
theorem Fh{l:List Ed}{a b:List Nm}(h:∀x,x∈a↔x∈b):eJ l a=eJ l b:=by
 rw[Bool.eq_iff_iff];unfold eJ jY;simp only[List.all_eq_true,Bool.and_eq_true,Bool.not_eq_true',decide_eq_false_iff_not,decide_eq_true_eq,h]
theorem Jx{a b:List Nm}(h:∀x,x∈a↔x∈b):aY a=aY b:=by
 refine xQ DG (dC a).1 (dC b).1 λx=>?_;rw[(dC a).2,(dC b).2,h]
theorem BX{l:List Ed}{set out:List Nm}(h:out.Perm (set++set.flatMap (bZ l))):sP l set=if eJ l out=false then([],6)else(aY out,0):=by
 have hm:∀x,x∈out↔x∈set++set.flatMap (bZ l):=λx=>h.mem_iff;unfold sP;rw[Fh hm,Jx hm]
end Go.Eng
namespace Go.Proofs
open Go.Shelf
def Tryz.sortNm_ren:Go.Shelf.Ren:=⟨λ|6=>61|15=>134|14=>133|28=>207|29=>208|20=>199|21=>200|22=>201|23=>202|24=>203|25=>204|26=>205|27=>206|46=>268|47=>269|48=>270|49=>271|50=>272|57=>314|n=>n,λ|22=>36|24=>29|25=>103|3=>3|39=>166|0=>0|53=>90|55=>93|4=>4|46=>236|45=>235|50=>154|5=>5|9=>9|66=>281|70=>285|76=>297|77=>298|n=>n,λ|n=>n⟩
theorem Tryz.sortNm:Go.Proofs.SlLaysF0.n6 Tryz.prog Tryz.sortNm_ren:={
 mixed:=by kernel_rfl,
 f6:=⟨Tryz.f61.name,by decide,Tryz.func61.trans (congrArg some (by kernel_rfl))⟩,
 f14:=⟨Tryz.f133.name,by decide,Tryz.func133.trans (congrArg some (by kernel_rfl))⟩,
 f15:=Tryz.func134.trans (congrArg some (by kernel_rfl)),
 f20:=⟨Tryz.f199.name,by decide,Tryz.func199.trans (congrArg some (by kernel_rfl))⟩,
 f21:=⟨Tryz.f200.name,by decide,Tryz.func200.trans (congrArg some (by kernel_rfl))⟩,
 f22:=⟨Tryz.f201.name,by decide,Tryz.func201.trans (congrArg some (by kernel_rfl))⟩,
 f23:=⟨Tryz.f202.name,by decide,Tryz.func202.trans (congrArg some (by kernel_rfl))⟩,
 f24:=⟨Tryz.f203.name,by decide,Tryz.func203.trans (congrArg some (by kernel_rfl))⟩,
 f25:=⟨Tryz.f204.name,by decide,Tryz.func204.trans (congrArg some (by kernel_rfl))⟩,
 f26:=⟨Tryz.f205.name,by decide,Tryz.func205.trans (congrArg some (by kernel_rfl))⟩,
 f27:=⟨Tryz.f206.name,by decide,Tryz.func206.trans (congrArg some (by kernel_rfl))⟩,
 f28:=Tryz.func207.trans (congrArg some (by kernel_rfl)),
 f29:=Tryz.func208.trans (congrArg some (by kernel_rfl)),
 f46:=⟨Tryz.f268.name,by decide,Tryz.func268.trans (congrArg some (by kernel_rfl))⟩,
 f47:=Tryz.func269.trans (congrArg some (by kernel_rfl)),
 f48:=Tryz.func270.trans (congrArg some (by kernel_rfl)),
 f49:=⟨Tryz.f271.name,by decide,Tryz.func271.trans (congrArg some (by kernel_rfl))⟩,
 f50:=⟨Tryz.f272.name,by decide,Tryz.func272.trans (congrArg some (by kernel_rfl))⟩,
 f57:=⟨Tryz.f314.name,by decide,Tryz.func314.trans (congrArg some (by kernel_rfl))⟩,
 t0:=Tryz.underlying0,
 a0:=Tryz.isAgg0,
 z0:=Tryz.sizeOf0,
 v0:=Tryz.zeroValue0,
 t3:=Tryz.underlying3,
 a3:=Tryz.isAgg3,
 z3:=Tryz.sizeOf3,
 v3:=Tryz.zeroValue3,
 t4:=Tryz.underlying4,
 a4:=Tryz.isAgg4,
 z4:=Tryz.sizeOf4,
 v4:=Tryz.zeroValue4,
 t5:=Tryz.underlying5,
 a5:=Tryz.isAgg5,
 z5:=Tryz.sizeOf5,
 v5:=Tryz.zeroValue5,
 t9:=Tryz.underlying9,
 a9:=Tryz.isAgg9,
 z9:=Tryz.sizeOf9,
 v9:=Tryz.zeroValue9,
 t22:=Tryz.underlying36,
 a22:=Tryz.isAgg36,
 z22:=Tryz.sizeOf36,
 v22:=Tryz.zeroValue36,
 t25:=Tryz.underlying103,
 a25:=Tryz.isAgg103,
 z25:=Tryz.sizeOf103,
 v25:=Tryz.zeroValue103,
 t39:=Tryz.underlying166,
 a39:=Tryz.isAgg166,
 z39:=Tryz.sizeOf166,
 v39:=Tryz.zeroValue166,
 t45:=Tryz.underlying235,
 a45:=Tryz.isAgg235,
 z45:=Tryz.sizeOf235,
 v45:=Tryz.zeroValue235,
 t46:=Tryz.underlying236,
 a46:=Tryz.isAgg236,
 z46:=Tryz.sizeOf236,
 v46:=Tryz.zeroValue236,
 t50:=Tryz.underlying154,
 a50:=Tryz.isAgg154,
 z50:=Tryz.sizeOf154,
 v50:=Tryz.zeroValue154,
 t53:=Tryz.underlying90,
 a53:=Tryz.isAgg90,
 z53:=Tryz.sizeOf90,
 v53:=Tryz.zeroValue90,
 t55:=Tryz.underlying93,
 a55:=Tryz.isAgg93,
 z55:=Tryz.sizeOf93,
 v55:=Tryz.zeroValue93,
 t66:=Tryz.underlying281,
 a66:=Tryz.isAgg281,
 z66:=Tryz.sizeOf281,
 v66:=Tryz.zeroValue281,
 t70:=Tryz.underlying285,
 a70:=Tryz.isAgg285,
 z70:=Tryz.sizeOf285,
 v70:=Tryz.zeroValue285,
 t76:=Tryz.underlying297,
 a76:=Tryz.isAgg297,
 z76:=Tryz.sizeOf297,
 v76:=Tryz.zeroValue297,
 t77:=Tryz.underlying298,
 a77:=Tryz.isAgg298,
 z77:=Tryz.sizeOf298,
 v77:=Tryz.zeroValue298}
end Go.Proofs
namespace Go.Eng
section
attribute[local simp] bA bW aQ aZ
theorem NG{α:Type}{f:α->DV}{l:List α}{t:List DV}{k:Nat}(h:k<l.length):(List.map f l++t)[k]? =some (f l[k]):=by rw[List.getElem?_append_left (by simpa using h)];simp[h]
def xV(l:List Nm):List Nm:=l.mergeSort λx y=> !Nm.less y x
theorem Oc(x:Nm)(w:World)(E:Nat->Prop)(v:Value):RD w E x.d v↔v=.agg x.enc.toArray:=by
 constructor
 ·intro h;cases h with
  |agg _ us hl _ hc=>
   match us,hl with
   |[a,b],_=>
    have h0:=hc 0 _ a rfl rfl;have h1:=hc 1 _ b rfl rfl;cases h0;cases h1;rfl
 ·rintro rfl;refine .agg _ _ rfl (λu hu=>by simp[Nm.enc]at hu;rcases hu with rfl|rfl<;>rfl) λi c v hc hv=>?_
  match i,hc,hv with
  |0,hc,hv=>simp[Nm.enc]at hc hv;subst hc;subst hv;exact .int _ _
  |1,hc,hv=>simp[Nm.enc]at hc hv;subst hc;subst hv;exact .int _ _
theorem wN:sG 2 Nm.d Nm.enc where
 pos:=by decide
 len:=λ_=>rfl
 lenD:=λ_=>rfl
 one:=λx v hv=>by simp[Nm.enc]at hv;rcases hv with rfl|rfl<;>rfl
 cell:=λx i c v hc hv w E u=>by
  match i,hc,hv with
  |0,hc,hv=>simp[Nm.enc,Nm.d,aK]at hc hv;subst hc;subst hv;exact⟨λh=>by cases h;rfl,λh=>h▸ .int _ _⟩
  |1,hc,hv=>simp[Nm.enc,Nm.d,aK]at hc hv;subst hc;subst hv;exact⟨λh=>by cases h;rfl,λh=>h▸ .int _ _⟩
theorem Jy(a b:Nm):Proofs.ltOf xO a b=Nm.less a b:=by
 have:=Ij a b;unfold Proofs.ltOf;by_cases h:0<=xO a b<;>simp[h,Int.not_lt.2,Int.lt_of_not_ge]at this|-<;>simp_all
theorem BY(l:List Nm)(hl:l.length<=8000000000000):BO Tryz.prog 61 [.ow 0 0 l.length,.d (.fn 62 [])] [(0,.row false 2 (l.map Nm.d))] [(0,.row false 2 ((xV l).map Nm.d))] (.tup []):=by
 have e0:Proofs.ltOf xO=Nm.less:=by funext x y;exact Jy x y
 have e:xV l=l.mergeSort λx y=> !(Proofs.ltOf xO) y x:=by rw[e0];rfl
 rw[e];have hO:Go.Sort.SWO Nm.less:=⟨λx=>by simp[Nm.less],λx y z h1 h2=>by simp[Nm.less]at h1 h2|-;omega,λx y z h1 h2=>by simp[Nm.less]at h1 h2|-;omega⟩;have hT:∀x y,Nm.less x y=false->Nm.less y x=false->x=y:=λx y h1 h2=>by simp[Nm.less]at h1 h2;cases x;cases y;simp at*;omega
 exact EW Tryz.sortNm wN Oc Tryz.isAgg29 Tryz.sizeOf29 xO (e0▸hO) (e0▸hT) _ Bg
  ⟨_,Tryz.func61,by kernel_rfl,by rfl⟩ l hl
theorem uZ(l:List Nm):(xV l).length=l.length:=List.length_mergeSort _
theorem zF(l:List Nm):fO (xV l)=aY l:=by
 refine DH (λx=>List.mem_mergeSort) ?_;have:=List.pairwise_mergeSort (le:=λx y:Nm=> !Nm.less y x) (λa b c h1 h2=>by simp[Nm.less]at*;omega) (λa b=>by simp[Nm.less];omega) l;exact this.imp λh=>by simpa using h
theorem fP(l:List Nm):(aY l).length<=l.length:=by rw[<-zF,<-uZ l];exact wJ _
theorem sQ{l:List Ed}{set:List Nm}:eJ l set=true↔∀n∈set,0<=bM l n/\∀m∈aX l n,m∈set:=by
 unfold eJ jY;simp
theorem sR(l:List Nm)(hl:l.length<=8000000000000):Ok Tryz.prog 16 [bY l] ⟨.own 2 ((aY l).map Nm.d),true⟩:=by
 refine bE Tryz.func16 rfl Tryz.ntmps16 Tryz.results16 λw0 X hp=>?_;refine aA ?_;simp;refine aS hT hW (λ|5=>some<| .plain ⟨.own 2 (l.map Nm.d),true⟩|_=>none) ?_;simp;refine⟨Bj l hl,?_⟩;refine aS hT hW (λ|7=>some (.gen ⟨[(5,0)],[],[],[(0,.row false 2 ((xV l).map Nm.d))],.tup []⟩)|_=>none) ?_;simp;refine⟨by simpa using BY l hl,?_⟩;refine aS hT hW (λ|9=>some (.gen ⟨[(5,0)],[],[],[(0,.row false 2 ((aY l).map Nm.d++List.replicate (l.length-(aY l).length) xT.d))],.ow 0 0 (aY l).length⟩)|_=>none) ?_;simp;refine⟨by have:=DJ (xV l) (by rw[uZ];exact hl);rw[uZ,zF]at this;simpa using this,?_⟩;refine aN ?_;simp
theorem Hp(out:List Nm)(n:Nm):Ok Tryz.prog 213 [n.d,.ro [bY out]] ⟨.d (.bool (!decide (n∈out))),true⟩:=by
 refine bE Tryz.func213 rfl Tryz.ntmps213 Tryz.results213 λw0 X hp=>?_;refine aA ?_;simp;refine aS hT hW (λ|6=>some<| .plain ⟨.d (.bool (decide (n∈out))),true⟩|_=>none) ?_;simp;refine⟨Ih out n,?_⟩;refine aN ?_;simp
theorem Jz(l:List Ed)(out:List Nm)(n:Nm)(h:0<=bM l n):Ok Tryz.prog 212 [n.d,.ro [bT l],.ro [bY out]] ⟨.d (.bool (kZ l out n)),true⟩:=by
 refine bE Tryz.func212 rfl Tryz.ntmps212 Tryz.results212 λw0 X hp=>?_;refine aA ?_;simp;refine aB ?_;obtain⟨i0,hi0,hfi,hfe,hne⟩:=xM (show¬bM l n<0 by omega);refine bI [[8],[],[],[],[],[],[],[8]] [[],[],[],[8],[],[],[],[],[13]] (λ|8=>some<| .plain ⟨.d (aT (bM l n)),true⟩|13=>some<| .plain ⟨.d (.bool (l[i0].needs.any λm=> !decide (m∈out))),true⟩|_=>none) ?_;simp[hfe,hi0];refine⟨⟨by rw[<-hfe];exact jX l n,by simpa [bY]using wI l[i0].needs (λm=> !decide (m∈out)) _ _ λm _=>Hp out m⟩,?_⟩;refine aN ?_;simp[kZ,hne];rw[Bool.eq_iff_iff];simp
theorem Hq{l:List Ed}{set:List Nm}(hc:eJ l set=true):(∀n∈aY set,∀m∈aX l n,m∈aY set\/m∈([]:List Nm))/\(∀n∈aY set,0<=bM l n)/\lZ l (aY set).length (aY set) []=lA l set/\(aY set).length+([]:List Nm).length<=set.length:=by
 have hcl:=sQ.1 hc;refine⟨λn hn m hm=>.inl ?_,λn hn=>?_,rfl,by simpa using fP set⟩
 ·exact((dC set).2 m).2 ((hcl n (((dC set).2 n).1 hn)).2 m hm)
 ·exact(hcl n (((dC set).2 n).1 hn)).1
theorem Fi(l:List Ed)(set:List Nm)(hl:set.length<=1100000)(ha:NF l)(hc:eJ l set=true):Ok Tryz.prog 142 [bT l,bY set] ⟨.own 2 ((lA l set).map Nm.d),true⟩:=by
 refine bE Tryz.func142 rfl Tryz.ntmps142 Tryz.results142 λw0 X hp=>?_;refine aA ?_;simp;refine aS hT hW (λ|9=>some<| .plain ⟨.own 2 ((aY set).map Nm.d),true⟩|_=>none) ?_;simp;refine⟨sR set (by omega),?_⟩;refine aA ?_;simp;refine Jp (fz:=false) 6 7 2 (by decide) ⟨by simp,by simp,?_⟩;refine aB ?_;refine aF ?_;refine aJ (ι:=List Nm×List Nm×Nat) (λ⟨rest,out,z⟩=>aU [(2,.bx 2 0),(5,.ow 5 0 rest.length),(6,.bx 6 0)]) (λ⟨rest,out,z⟩=>aL [(2,.box false [.d (bT l)]),(5,.row false 2 (rest.map Nm.d++List.replicate z xT.d)),(6,.box false [.ow 7 0 out.length]),(7,.row false 2 (out.map Nm.d))]) (λ⟨rest,out,z⟩=>(∀n∈rest,∀m∈aX l n,m∈rest\/m∈out)/\(∀n∈rest,0<=bM l n)/\lZ l rest.length rest out=lA l set/\rest.length+out.length<=set.length) (λ⟨rest,out,z⟩=>rest.length) (aY set,[],0) (aC hp [2,5,6] [(2,2),(9,5),(6,6),(7,7)]) (Hq hc) λ⟨rest,out,z⟩ hi3=>?_;refine aB ?_;refine aA ?_;simp;refine aD ?_;simp;refine⟨λh3=>?_,λh3=>?_⟩
 ·obtain⟨k,hfk,hk⟩:=LE ha hi3.1 h3;refine aH ?_;simp;refine aF ?_;refine aS hT hW (λ|15=>some<| .plain ⟨.d (aT (mG (kZ l out) rest)),true⟩|_=>none) ?_;simp;refine⟨by simpa [bY]using Bc rest (kZ l out) _ _ λn hn=>Jz l out n (hi3.2.1 n hn),?_⟩;refine aB ?_;refine bI [[21]] [[],[],[],[],[],[21],[22,7],[6]] (λ_=>none) ?_;simp[kW hfk,hk,NG hk];refine⟨by have:=hi3.2.2.2;omega,?_⟩;refine eG.ro hT hW (λ|27=>some (.gen ⟨[(5,0)],[],[],[(0,.row false 2 ((rest.eraseIdx k).map Nm.d++Nm.d ⟨0,0⟩::List.replicate z xT.d))],.ow 0 0 (rest.length-1)⟩)|_=>none) ?_;simp;refine⟨⟨by have:=hi3.2.2.2;omega,by simpa using Fe rest (List.replicate z xT.d) (λy hy=>by rw[(List.mem_replicate.1 hy).2];rfl) k hk⟩,?_⟩;refine aI (rest.eraseIdx k,out++[rest[k]],z+1) (aC hp [2,5,6] [(2,2),(5,5),(6,6),(22,7)] (by simp[List.length_eraseIdx,hk]) (by simp[List.replicate_succ,xT])) ?_ ?_
  ·refine⟨Fg hi3.1 hk,λn hn=>hi3.2.1 n (List.mem_of_mem_eraseIdx hn),?_,?_⟩
   ·have:=hi3.2.2.1;rw[<-this,show rest.length=(rest.eraseIdx k).length+1 by rw[List.length_eraseIdx,if_pos hk];omega,sO hfk hk]
   ·have:=hi3.2.2.2;simp[List.length_eraseIdx,hk];omega
  ·simp[List.length_eraseIdx,hk];omega
 ·refine aO ?_;simp;refine aA ?_;simp;refine aN ?_;have:=hi3.2.2.1;simp only[show rest=[] from List.eq_nil_of_length_eq_zero (by simpa using h3),List.length_nil,lZ]at this;simp[<-this]
end
section
attribute[local simp] bA bW aQ aZ
theorem JA(l:List Ed)(set:List Nm)(hs:iL l)(hl:set.length<=1100000):Ok Tryz.prog 74 [bT l,bY set] ⟨.tup [.own 2 ((xU l set).1.map Nm.d),.d (aT (xU l set).2)],true⟩:=by
 refine AV Tryz.func74 (by kernel_rfl) (c:=_) rfl Tryz.ntmps74 (by simp) Tryz.results74 rfl λw0 X hp=>?_;refine aA ?_;simp;refine aB ?_;refine aS hT hW (λ|10=>some<| .plain ⟨.tup [.d (aT (cT l).1),.d (aT (cT l).2)],true⟩|_=>none) ?_;simp[cO];refine⟨tM l hs,?_⟩;refine aA ?_;simp;refine aD ?_;simp;refine⟨λh2=>?_,λh2=>?_⟩
 ·refine aA ?_;simp;refine aN ?_;simp[xU,h2]
 ·refine aH ?_;simp;refine aB ?_;refine aS hT hW (λ|18=>some<| .plain ⟨.d (.bool (eJ l set)),true⟩|_=>none) ?_;simp;refine⟨qO l set,?_⟩;refine aD ?_;simp;refine⟨λh4=>?_,λh4=>?_⟩
  ·refine aA ?_;simp;refine aN ?_;simp[xU,h2,h4]
  ·refine aH ?_;simp;refine aS hT hW (λ|22=>some<| .plain ⟨.own 2 ((lA l set).map Nm.d),true⟩|_=>none) ?_;simp;refine⟨Fi l set hl (Bl (by simpa using h2)) (by simpa using h4),?_⟩;refine aN ?_;simp[xU,h2,h4]
theorem Fj(l:List dO)(p:dO->Bool)(g:FuncId)(cs:List DV)(hg:∀x∈l,Ok Tryz.prog g (.str x::cs) ⟨.d (.bool (p x)),true⟩):Ok Tryz.prog 193 [cQ l,.fn g cs] ⟨.d (aT (mG p l)),true⟩:=by
 refine bE Tryz.func193 rfl Tryz.ntmps193 Tryz.results193 λw0 X hp=>?_;refine eG.len (t:=0) rfl λhlen=>?_;simp at hlen;refine aA ?_;simp;refine aB ?_;refine aA ?_;simp;refine aF ?_;refine aJ (ι:=Nat) (λi=>aU [(0,.d (cQ l)),(1,.d (.fn g cs)),(7,.d (aT l.length)),(8,.d (aT i))]) (λi=>aL []) (λi=>i<=l.length/\AY p l i) (λi=>l.length-i) 0 (aC hp [0,1,7,8] []) (⟨Nat.zero_le _,AY.zero⟩) λi hi2=>?_;refine aA ?_;simp;refine aB ?_;refine aD ?_;simp;refine⟨λh2=>?_,λh2=>?_⟩
 ·refine aH ?_;simp;refine aB ?_;refine aF ?_;refine aA ?_;simp;refine aS hT hW (λ|16=>some<| .plain ⟨.d (.bool (p l[i])),true⟩|_=>none) ?_;simp[h2];refine⟨hg l[i] (List.getElem_mem h2),?_⟩;refine aD ?_;simp;refine⟨λh4=>?_,λh4=>?_⟩
  ·refine aA ?_;simp;refine aN ?_;simp[kW (hi2.2.found h2 h4)]
  ·refine aH ?_;simp;refine aG ?_;simp;refine⟨by omega,?_⟩;refine aI (i+1) (aC hp [0,1,7,8] []) ?_ ?_
   ·exact⟨h2,hi2.2.succ h2 h4⟩
   ·omega
 ·refine aO ?_;simp;refine aA ?_;simp;refine aN ?_;simp[mQ (hi2.2.none (by omega))]
theorem Hr{α:Type}{p:α->Bool}{l:List α}(h:mG p l≠ -1):∃k:Nat,mG p l=(k:Int)/\∃hk:k<l.length,p l[k]=true/\(l.take (k+1)).filter (λx=> !p x)=l.take k:=by
 unfold mG at h|-;split at h
 ·rename_i k hk;refine⟨k,by simp,?_⟩;obtain⟨h1,h2,h3⟩:=List.findIdx?_eq_some_iff_getElem.1 hk;refine⟨h1,h2,?_⟩;rw[List.take_succ_eq_append_getElem h1,List.filter_append];simp only[List.filter_cons,h2,Bool.not_true,Bool.false_eq_true,if_false,List.filter_nil,List.append_nil];rw[List.filter_eq_self];intro a ha;obtain⟨j,hj,rfl⟩:=List.getElem_of_mem ha;simp at hj|-;simpa using h3 j (by omega)
 ·exact absurd rfl h
theorem Fk{α:Type}{p:α->Bool}{l:List α}(h:mG p l= -1):l.filter (λx=> !p x)=l:=by
 unfold mG at h;split at h
 ·omega
 ·rename_i hk;rw[List.filter_eq_self];intro a ha;simpa using List.findIdx?_eq_none_iff.1 hk a ha
theorem xW(l:List dO)(hl:l.length<=8000000000000)(p:dO->Bool)(g:FuncId)(cs:List DV)(hg:∀x∈l,Ok Tryz.prog g (.str x::cs) ⟨.d (.bool (p x)),true⟩):BO Tryz.prog 119 [.ow 0 0 l.length,.d (.fn g cs)] [(0,.row false 1 (l.map .str))] [(0,.row false 1 ((l.filter λx=> !p x).map .str++List.replicate (l.length-(l.filter λx=> !p x).length) (.str [])))] (.ow 0 0 (l.filter λx=> !p x).length):=by
 refine DC Tryz.func119 rfl Tryz.ntmps119 Tryz.results119 λw0 X hp=>?_;refine aA ?_;simp;refine aS hT hW (λ|10=>some<| .plain ⟨.d (aT (mG p l)),true⟩|_=>none) ?_;simp;refine⟨by simpa [cQ]using Fj l p g cs hg,?_⟩;refine aB ?_;refine aA ?_;simp;refine aD ?_;simp;refine⟨λh2=>?_,λh2=>?_⟩
 ·refine aA ?_;simp;refine aN ?_;simp;refine aC hp [4] [(0,0)] ?_ ?_
  ·simp[Fk h2]
  ·simp[Fk h2]
 ·obtain⟨k,hk,hkl,hpk,htk⟩:=Hr h2;refine aH ?_;simp;refine aB ?_;refine aA ?_;simp[hk];refine⟨by omega,?_⟩;refine aF ?_;refine aJ (ι:=Nat×Nat×List dO) (λ⟨q,i,r⟩=>aU [(0,.ow 0 0 l.length),(1,.d (.fn g cs)),(5,.d (aT i)),(6,.d (aT q))]) (λ⟨q,i,r⟩=>aL [(0,.row false 1 (r.map .str))]) (λ⟨q,i,r⟩=>q<=l.length/\i<q/\r.length=l.length/\r.take i=(l.take q).filter (λx=> !p x)/\r.drop q=l.drop q) (λ⟨q,i,r⟩=>l.length-q) (k+1,k,l) (aC hp [0,1,5,6] [(0,0)]) (⟨hkl,by omega,rfl,htk.symm,rfl⟩) λ⟨q,i,r⟩ hi5=>?_;refine aB ?_;refine aA ?_;simp;refine aD ?_;simp;refine⟨λh5=>?_,λh5=>?_⟩
  ·refine aH ?_;simp;refine aB ?_;refine aF ?_;refine aB ?_;obtain⟨g1,g2,g3,g4,g5⟩:=hi5;have e1:r[q]'(by omega)=l[q]:=Bk g5 (by omega) (by omega) h5;refine aG ?_;simp[(show q<r.length by omega),e1];refine⟨by omega,?_⟩;refine aS hT hW (λ|28=>some<| .plain ⟨.d (.bool (p l[q])),true⟩|_=>none) ?_;simp;refine⟨hg l[q] (List.getElem_mem h5),?_⟩;refine aD ?_;simp;refine⟨λh8=>?_,λh8=>?_⟩
   ·refine aA ?_;simp[(show i<r.length by omega)];refine⟨by omega,?_⟩;refine aG ?_;simp;refine⟨by omega,?_⟩;refine aG ?_;simp;refine⟨by omega,?_⟩;refine aI (q+1,i+1,r.set i l[q]) (aC hp [0,1,5,6] [(0,0)]) ?_ ?_
    ·dsimp only;refine⟨by omega,by omega,by simp[g3],?_,?_⟩
     ·rw[List.take_succ_eq_append_getElem (by simpa using(show i<r.length by omega)),List.getElem_set_self,List.take_set_of_le (by omega),g4,List.take_succ_eq_append_getElem h5,List.filter_append];simp[h8]
     ·have g8:=congrArg (List.drop 1) g5;rw[List.drop_drop,List.drop_drop]at g8;rw[List.drop_set_of_lt (by omega),g8]
    ·omega
   ·refine aH ?_;simp;refine aG ?_;simp;refine⟨by omega,?_⟩;refine aI (q+1,i,r) (aC hp [0,1,5,6] [(0,0)]) ?_ ?_
    ·dsimp only;refine⟨by omega,by omega,g3,?_,?_⟩
     ·rw[g4,List.take_succ_eq_append_getElem h5,List.filter_append];simp[h8]
     ·have g8:=congrArg (List.drop 1) g5;rw[List.drop_drop,List.drop_drop]at g8;exact g8
    ·omega
  ·refine aO ?_;simp;refine aA ?_;simp;refine⟨by omega,?_⟩;refine aA ?_;simp;refine⟨by omega,?_⟩;refine aN ?_;simp;obtain⟨g1,g2,g3,g4,g5⟩:=hi5;have hq:q=l.length:=by omega
   rw[hq,List.take_length]at g4;have hkl:(l.filter λx=> !p x).length=i:=by rw[<-g4];simp;omega
   refine aC hp [4] [(0,0)] ?_ ?_
   ·simp[hkl]
   ·have hd:List.drop (i+(l.length-i)) (List.map DV.str r)=[]:=List.drop_eq_nil_of_le (by simp;omega);simp;rw[hd,hkl,<-g4,List.map_take,List.append_nil]
theorem DK(e:Ed)(h1:e.puts.length<=1100000)(h2:e.drops.length<=1100000):Ok Tryz.prog 118 [e.d] ⟨.own 1 ((aP e).map .str),true⟩:=by
 refine bE Tryz.func118 rfl Tryz.ntmps118 Tryz.results118 λw0 X hp=>?_;refine aA ?_;simp;refine aA ?_;simp;refine aB ?_;refine aA ?_;simp;refine aF ?_;refine aJ (ι:=Nat×List dO) (λ⟨i,acc⟩=>aU [(1,.bx 1 0),(3,.ow 3 0 acc.length),(7,.d (jA e.puts)),(8,.d (aT e.puts.length)),(9,.d (aT i))]) (λ⟨i,acc⟩=>aL [(3,.row false 1 (acc.map .str)),(1,.box false ((aK e.d).map .d))]) (λ⟨i,acc⟩=>i<=e.puts.length/\acc.length=i/\acc=(e.puts.map Df.name).take i) (λ⟨i,acc⟩=>e.puts.length-i) (0,[]) (aC hp [1,3,7,8,9] [(3,3),(1,1)]) (by simp) λ⟨i,acc⟩ hi3=>?_;refine aA ?_;simp;refine aB ?_;refine aD ?_;simp;refine⟨λh3=>?_,λh3=>?_⟩
 ·refine aH ?_;simp;refine aB ?_;refine aF ?_;refine aA ?_;simp[h3];refine aG ?_;simp;refine⟨by have:=hi3.2.1;omega,?_⟩;refine aG ?_;simp;refine⟨by omega,?_⟩;refine aI (i+1,acc++[e.puts[i].name]) (aC hp [1,3,7,8,9] [(17,3),(1,1)]) ?_ ?_
  ·exact⟨h3,by simp[hi3.2.1],by rw[gL h3,<-hi3.2.2]⟩
  ·omega
 ·refine aO ?_;simp;refine aA ?_;simp;refine⟨by have:=hi3.2.1;omega,?_⟩;refine aN ?_;have q:i=e.puts.length:=by omega
  have:=hi3.2.2;rw[q]at this;have q2:∀(x y:List DV) (n:Nat),n=x.length+y.length->List.take n (x++y)=x++y:=λx y n h=>List.take_of_length_le (by simp[h]);simp[this,aP,q2];rintro x (⟨a,_,rfl⟩|⟨a,_,rfl⟩)<;>simp
def BZ(l:List Ed)(n:Nm):Ed:=match find? l n with|some i=>l.getD i default|none=>default
def dB(l:List Ed)(a b:Nm):List dO:=
 if bM l a<0\/bM l b<0\/a=b\/a∈bZ l b\/b∈bZ l a then []else(aP (BZ l a)).filter λs=>decide (s∈aP (BZ l b))
theorem tO{l:List Ed}{n:Nm}(h:0<=bM l n):∃i,∃hi:i<l.length,bM l n=(i:Int)/\BZ l n=l[i]:=by
 unfold bM at h;unfold bM BZ;cases q:find? l n with
 |none=>rw[q]at h;simp at h
 |some i=>
  obtain⟨hi,_,_⟩:=Aa q;exact⟨i,hi,rfl,by simp[hi]⟩
theorem oL{e:Ed}(h1:e.puts.length<=1100000)(h2:e.drops.length<=1100000):(aP e).length<=2200000:=by unfold aP;simp;omega
theorem JB(l:List dO)(s:dO):Ok Tryz.prog 120 [.str s,.ro [cQ l]] ⟨.d (.bool (!decide (s∈l))),true⟩:=by
 refine bE Tryz.func120 rfl Tryz.ntmps120 Tryz.results120 λw0 X hp=>?_;refine aA ?_;simp;refine aS hT hW (λ|6=>some<| .plain ⟨.d (.bool (decide (s∈l))),true⟩|_=>none) ?_;simp;refine⟨Bh l s,?_⟩;refine aN ?_;simp
theorem Fl(l:List Ed)(a b:Nm)(hs:iL l)(ha:0<=bM l a)(hb:0<=bM l b):Ok Tryz.prog 45 [bT l,a.d,b.d] ⟨.d (cQ (dB l a b)),true⟩:=by
 refine bE Tryz.func45 rfl Tryz.ntmps45 Tryz.results45 λw0 X hp=>?_;refine aA ?_;simp;refine aB ?_;refine aS hT hW (λ|15=>some<| .plain ⟨.d (.bool (decide (a∈bZ l b))),true⟩|21=>some<| .plain ⟨.d (.bool (decide (b∈bZ l a))),true⟩|_=>none) ?_;simp;refine⟨⟨λ_=>nI l a b,λ_ _=>nI l b a⟩,?_⟩;refine aD ?_;simp;refine⟨λh1=>?_,λg1 g2 g3=>?_⟩
 ·refine aA ?_;simp;refine aN ?_;have e:dB l a b=[]:=by unfold dB;rw[if_pos (by rcases h1 with(h|h)|h<;>simp[h])]
  simp[e]
 ·refine aH ?_;simp;refine aB ?_;obtain⟨i,hi,fa,ea⟩:=tO ha;obtain⟨j,hj,fb,eb⟩:=tO hb;refine eG.ro hT hW (λ|26=>some<| .plain ⟨.d (aT (bM l b)),true⟩|29=>some<| .plain ⟨.d (cQ (aP l[j])),true⟩|_=>none) ?_;simp[fb,hj];refine⟨⟨by rw[<-fb];exact jX l b,sN _ (hs _ (List.getElem_mem hj)).1 (hs _ (List.getElem_mem hj)).2⟩,?_⟩;refine aS hT hW (λ|33=>some<| .plain ⟨.d (aT (bM l a)),true⟩|36=>some<| .plain ⟨.own 1 ((aP l[i]).map .str),true⟩|38=>some (.gen ⟨[(36,0)],[],[1],[(0,.row false 1 (((aP l[i]).filter λx=> !(!decide (x∈aP l[j]))).map .str++List.replicate ((aP l[i]).length-((aP l[i]).filter λx=> !(!decide (x∈aP l[j]))).length) (.str [])))],.ow 0 0 ((aP l[i]).filter λx=> !(!decide (x∈aP l[j]))).length⟩)|_=>none) ?_;simp[fa,hi];refine⟨⟨⟨by rw[<-fa];exact jX l a,DK _ (hs _ (List.getElem_mem hi)).1 (hs _ (List.getElem_mem hi)).2⟩,by simpa [cQ]using xW (aP l[i]) (by have:=oL (hs _ (List.getElem_mem hi)).1 (hs _ (List.getElem_mem hi)).2;omega) (λx=> !decide (x∈aP l[j])) _ _ λx _=>JB (aP l[j]) x⟩,?_⟩;refine aN ?_;have e:dB l a b=(aP l[i]).filter λs=>decide (s∈aP l[j]):=by unfold dB;rw[if_neg (by simp only[not_or];exact⟨by omega,by omega,g1,g2,g3⟩),ea,eb]
  simp[e];rintro _ x _ _ rfl;simp
def mR(l:List Ed)(s:dO)(a b c:Nm):Bool:=decide (s∈aP (BZ l c))&&decide (a∈bZ l c)&&decide (b∈bZ l c)
def vA(l:List Ed)(set:List Nm)(a b:Nm):Bool:=(dB l a b).any λs=> !set.any (mR l s a b)
theorem JC(l:List Ed)(s:dO)(a b c:Nm)(hs:iL l)(hc:0<=bM l c):Ok Tryz.prog 215 [c.d,.ro [bT l],.ro [.str s],.ro [aT a.who,aT a.seq],.ro [aT b.who,aT b.seq]] ⟨.d (.bool (mR l s a b c)),true⟩:=by
 refine bE Tryz.func215 rfl Tryz.ntmps215 Tryz.results215 λw0 X hp=>?_;refine aA ?_;simp;refine aB ?_;obtain⟨i,hi,fc,ec⟩:=tO hc;refine bI [[10],[],[],[],[],[],[],[10,13]] [[],[],[],[10],[],[],[13],[],[15],[],[],[],[],[20],[],[],[],[],[],[26]] (λ|10=>some<| .plain ⟨.d (aT (bM l c)),true⟩|13=>some<| .plain ⟨.d (cQ (aP l[i])),true⟩|15=>some<| .plain ⟨.d (.bool (decide (s∈aP l[i]))),true⟩|20=>some<| .plain ⟨.d (.bool (decide (a∈bZ l c))),true⟩|26=>some<| .plain ⟨.d (.bool (decide (b∈bZ l c))),true⟩|_=>none) ?_;simp[fc,hi];refine⟨⟨⟨⟨⟨by rw[<-fc];exact jX l c,sN _ (hs _ (List.getElem_mem hi)).1 (hs _ (List.getElem_mem hi)).2⟩,Bh _ _⟩,λ_=>nI l a c⟩,λ_ _=>nI l b c⟩,?_⟩;refine aN ?_;simp[mR,ec]
theorem Bn{l:List Ed}(hs:iL l)(n:Nm):(BZ l n).puts.length<=1100000/\(BZ l n).drops.length<=1100000:=by
 unfold BZ;split
 ·rename_i i h;obtain⟨hi,_,_⟩:=Aa h;simp only[List.getD_eq_getElem?_getD,List.getElem?_eq_getElem hi,Option.getD_some];exact hs _ (List.getElem_mem hi)
 ·exact⟨by decide,by decide⟩
theorem Fm{l:List Ed}(hs:iL l)(a b:Nm):(dB l a b).length<=2200000:=by
 unfold dB;split
 ·simp
 ·exact Nat.le_trans (List.length_filter_le _ _) (oL (Bn hs a).1 (Bn hs a).2)
theorem JD(l:List Ed)(set:List Nm)(a b:Nm)(hs:iL l)(hset:∀c∈set,0<=bM l c)(ha:0<=bM l a)(hb:0<=bM l b):Ok Tryz.prog 143 [bT l,bY set,a.d,b.d] ⟨.d (.bool (vA l set a b)),true⟩:=by
 refine bE Tryz.func143 rfl Tryz.ntmps143 Tryz.results143 λw0 X hp=>?_;have hlen:=Fm hs a b;refine aA ?_;simp;refine aB ?_;refine aS hT hW (λ|14=>some<| .plain ⟨.d (cQ (dB l a b)),true⟩|_=>none) ?_;simp;refine⟨Fl l a b hs ha hb,?_⟩;refine aF ?_;refine aJ (ι:=Nat) (λi=>aU [(1,.d (bY set)),(4,.bx 4 0),(6,.bx 6 0),(7,.bx 7 0),(14,.d (cQ (dB l a b))),(15,.d (aT (dB l a b).length)),(16,.d (aT i))]) (λi=>aL [(4,.box false [.d (bT l)]),(6,.box false [.d (aT a.who),.d (aT a.seq)]),(7,.box false [.d (aT b.who),.d (aT b.seq)])]) (λi=>i<=(dB l a b).length/\AY (λs=> !set.any (mR l s a b)) (dB l a b) i) (λi=>(dB l a b).length-i) 0 (aC hp [1,4,6,7,14,15,16] [(4,4),(6,6),(7,7)]) (⟨Nat.zero_le _,AY.zero⟩) λi hi2=>?_;refine aA ?_;simp;refine aB ?_;refine aD ?_;simp;refine⟨λh2=>?_,λh2=>?_⟩
 ·refine aH ?_;simp;refine aB ?_;refine aF ?_;refine aA ?_;simp[h2];refine aS hT hW (λ|22=>some<| .plain ⟨.d (.bool (set.any (mR l (dB l a b)[i] a b))),true⟩|_=>none) ?_;simp;refine⟨wI set (mR l (dB l a b)[i] a b) _ _ λc hc=>JC l _ a b c hs (hset c hc),?_⟩;refine aD ?_;simp;refine⟨λh4=>?_,λc4 hc4 hr4=>?_⟩
  ·refine aA ?_;simp;refine aN ?_;simp;exact List.any_eq_true.2 ⟨_,List.getElem_mem h2,by simpa using h4⟩
  ·refine aH ?_;simp;refine aG ?_;simp;refine⟨by omega,?_⟩;refine aI (i+1) (aC hp [1,4,6,7,14,15,16] [(4,4),(6,6),(7,7)]) ?_ ?_
   ·exact⟨h2,hi2.2.succ h2 (by have:=List.any_eq_true.2 ⟨c4,hc4,hr4⟩;simp only[this,Bool.not_true])⟩
   ·omega
 ·refine aO ?_;simp;refine aA ?_;simp;refine aN ?_;simp;exact hi2.2.any h2
end
section
attribute[local simp] bA bW aQ aZ
def Ej(p:Nm×Nm):DV:=.agg [.int .i64 p.1.who,.int .i64 p.1.seq,.int .i64 p.2.who,.int .i64 p.2.seq]
def LF(f:Nm->Nm->Bool)(all:List Nm)(i:Nat):List (Nm×Nm):=((all.drop (i+1)).filter (f (all.getD i default))).map λb=>(all.getD i default,b)
def lB(f:Nm->Nm->Bool)(all:List Nm):Nat->List (Nm×Nm)
 |0=>[]
 |i+1=>lB f all i++LF f all i
def gS(l:List Ed)(a b:Nm):Bool:=decide (0<(dB l a b).length)
def gI(l:List Ed):List (Nm×Nm):=if(cT l).2≠0 then []else lB (gS l) (aY (l.map Ed.name)) (aY (l.map Ed.name)).length
theorem LG(f:Nm->Nm->Bool)(all:List Nm)(i:Nat):(LF f all i).length<=all.length:=by
 unfold LF;rw[List.length_map];exact Nat.le_trans (List.length_filter_le _ _) (by simp)
theorem Bo(f:Nm->Nm->Bool)(all:List Nm):∀i,(lB f all i).length<=i*all.length
 |0=>by simp[lB]
 |i+1=>by
  have:=Bo f all i;have:=LG f all i;simp only[lB,List.length_append,Nat.add_mul];omega
theorem Fn{l:List Ed}{n:Nm}(h:n∈aY (l.map Ed.name)):0<=bM l n:=by
 have h:=((dC _).2 n).1 h;obtain⟨e,he,rfl⟩:=List.mem_map.1 h;unfold bM;cases q:find? l e.name with
 |some i=>simp
 |none=>have:=List.findIdx?_eq_none_iff.1 q e he;simp at this
theorem zG(l:List Ed)(hs:iL l):Ok Tryz.prog 8 [bT l] ⟨.d (.sl ((gI l).map Ej)),true⟩:=by
 refine bE Tryz.func8 rfl Tryz.ntmps8 Tryz.results8 λw0 X hp=>?_;refine eG.len (t:=0) rfl λhlen=>?_;simp at hlen;refine aA ?_;simp;refine aB ?_;refine aS hT hW (λ|15=>some<| .plain ⟨.tup [.d (aT (cT l).1),.d (aT (cT l).2)],true⟩|_=>none) ?_;simp[cO];refine⟨tM l hs,?_⟩;refine aA ?_;simp;refine aD ?_;simp;refine⟨λh2=>?_,λh2=>?_⟩
 ·refine aA ?_;simp;refine aN ?_;simp[gI,h2]
 ·have h64:=(tN (by simpa using h2)).1;refine aH ?_;simp;refine aA ?_;simp;refine aB ?_;refine aA ?_;simp;refine aF ?_;refine aJ (ι:=Nat×List Nm) (λ⟨i,acc⟩=>aU [(0,.d (bT l)),(5,.ow 5 0 acc.length),(20,.d (bT l)),(21,.d (aT l.length)),(22,.d (aT i))]) (λ⟨i,acc⟩=>aL [(5,.row false 2 (acc.map Nm.d))]) (λ⟨i,acc⟩=>i<=l.length/\acc.length=i/\acc=(l.map Ed.name).take i) (λ⟨i,acc⟩=>l.length-i) (0,[]) (aC hp [0,5,20,21,22] [(5,5)]) (by simp) λ⟨i,acc⟩ hi6=>?_;refine aA ?_;simp;refine aB ?_;refine aD ?_;simp;refine⟨λh6=>?_,λh6=>?_⟩
  ·refine aH ?_;simp;refine aB ?_;refine aF ?_;refine aA ?_;simp[h6];refine aG ?_;simp[h6];refine⟨by have:=hi6.2.1;omega,?_⟩;refine aG ?_;simp;refine⟨by omega,?_⟩;refine aI (i+1,acc++[l[i].name]) (aC hp [0,5,20,21,22] [(30,5)]) ?_ ?_
   ·exact⟨h6,by simp[hi6.2.1],by rw[gL h6,<-hi6.2.2]⟩
   ·omega
  ·refine aO ?_;simp;refine aB ?_;have e6:acc=l.map Ed.name:=by rw[hi6.2.2,show i=l.length by omega,List.take_of_length_le (by simp)]
   refine eG.ro hT hW (λ|33=>some<| .plain ⟨.own 2 ((aY acc).map Nm.d),true⟩|_=>none) ?_;simp;refine⟨sR acc (by have:=hi6.2.1;omega),?_⟩;refine aA ?_;simp;refine aB ?_;refine aB ?_;obtain⟨all,hall⟩:∃all,all=aY acc:=⟨_,rfl⟩;have hal:all.length<=64:=by have:=fP acc;have:=hi6.2.1;rw[hall];omega
   have hfound:∀n∈all,0<=bM l n:=λn hn=>Fn (by rw[<-e6,<-hall];exact hn);rw[<-hall];refine aG ?_;simp;refine aF ?_;refine aJ (ι:=Nat×List (Nm×Nm)) (λ⟨j,ps⟩=>aU [(0,.d (bT l)),(5,.ow 5 0 all.length),(8,.ow 8 0 ps.length),(34,.ow 5 0 all.length),(35,.d (aT all.length)),(36,.d (aT j))]) (λ⟨j,ps⟩=>aL [(5,.row false 2 (all.map Nm.d)),(8,.row false 4 (ps.map Ej))]) (λ⟨j,ps⟩=>j<=all.length/\ps.length<=j*all.length/\ps=lB (gS l) all j) (λ⟨j,ps⟩=>all.length-j) (0,[]) (aC hp [0,5,8,34,35,36] [(33,5),(8,8)]) (by simp[lB]) λ⟨j,ps⟩ hi13=>?_;refine aA ?_;simp;refine aB ?_;refine aD ?_;simp;refine⟨λh13=>?_,λh13=>?_⟩
   ·refine aH ?_;simp;refine aB ?_;refine aF ?_;refine aA ?_;simp[h13];refine aA ?_;simp[(show((all.length:Int)-((j:Int)+1)).toNat=all.length-(j+1)by omega)];refine⟨by omega,?_⟩;refine aF ?_;refine aJ (ι:=Nat×List (Nm×Nm)) (λ⟨k,qs⟩=>aU [(0,.d (bT l)),(5,.ow 5 0 all.length),(8,.ow 8 0 qs.length),(10,.bx 10 0),(34,.ow 5 0 all.length),(35,.d (aT all.length)),(36,.d (aT j)),(44,.ow 5 (j+1) (all.length-(j+1))),(45,.d (aT (all.length-(j+1):Nat))),(46,.d (aT k))]) (λ⟨k,qs⟩=>aL [(5,.row false 2 (all.map Nm.d)),(8,.row false 4 (qs.map Ej)),(10,.box false [.d (aT all[j].who),.d (aT all[j].seq)])]) (λ⟨k,qs⟩=>k<=all.length-(j+1)/\qs.length<=ps.length+k/\qs=lB (gS l) all j++(((all.drop (j+1)).take k).filter (gS l all[j])).map (λb=>(all[j],b))) (λ⟨k,qs⟩=>all.length-(j+1)- k) (0,ps) (aC hp [0,5,8,10,34,35,36,44,45,46] [(5,5),(8,8),(10,10)]) (by simp[hi13.2.2]) λ⟨k,qs⟩ hi16=>?_;refine aA ?_;simp;refine aB ?_;refine aD ?_;simp;refine⟨λh16=>?_,λh16=>?_⟩
    ·refine aH ?_;simp;refine aB ?_;refine aF ?_;refine aB ?_;have h16':j+1+k<all.length:=by omega
     refine aG ?_;simp[h16,h16'];refine aS hT hW (λ|53=>some<| .plain ⟨.d (cQ (dB l all[j] all[j+1+k])),true⟩|_=>none) ?_;simp;refine⟨Fl l _ _ hs (hfound _ (List.getElem_mem h13)) (hfound _ (List.getElem_mem h16')),?_⟩;refine aD ?_;simp;refine⟨λh18=>?_,λh18=>?_⟩
     ·refine aG ?_;simp;have hb:qs.length<=5000:=by
       have h1:=hi16.2.1;have h2:=hi13.2.1;have h3:j*all.length<=64*64:=Nat.mul_le_mul (by omega) hal;omega
      refine⟨by omega,?_⟩;refine aG ?_;simp;refine⟨by omega,?_⟩;refine aI (k+1,qs++[(all[j],all[j+1+k])]) (aC hp [0,5,8,10,34,35,36,44,45,46] [(5,5),(61,8),(10,10)] (hH:=by simp[Ej])) ?_ ?_
      ·refine⟨by omega,by have:=hi16.2.1;simp;omega,?_⟩;rw[hi16.2.2,List.take_succ_eq_append_getElem (by simp;omega),List.filter_append,List.map_append];simp[gS,h18]
      ·omega
     ·refine aH ?_;simp;refine aG ?_;simp;refine⟨by omega,?_⟩;refine aI (k+1,qs) (aC hp [0,5,8,10,34,35,36,44,45,46] [(5,5),(8,8),(10,10)]) ?_ ?_
      ·dsimp only;refine⟨by omega,by have:=hi16.2.1;omega,?_⟩;rw[hi16.2.2,List.take_succ_eq_append_getElem (by simp;omega),List.filter_append,List.map_append];simp[gS,h18]
      ·omega
    ·refine aO ?_;simp;refine aG ?_;simp;refine⟨by omega,?_⟩;refine aI (j+1,qs) (aC hp [0,5,8,34,35,36] [(5,5),(8,8)]) ?_ ?_
     ·refine⟨h13,?_,?_⟩
      ·rw[hi16.2.2,List.length_append,Nat.add_mul];have h1:=hi13.2.1;have h2:=hi13.2.2;rw[<-h2];have h3:((((all.drop (j+1)).take k).filter (gS l all[j])).map (λb=>(all[j],b))).length<=all.length:=by
        rw[List.length_map];exact Nat.le_trans (List.length_filter_le _ _) (by simp;omega)
       omega
      ·rw[hi16.2.2,List.take_of_length_le (by simp;omega)];simp[lB,LF,h13]
     ·omega
   ·refine aO ?_;simp;refine aA ?_;simp;refine aN ?_;have e:ps=gI l:=by
     have:=hi13.2.2;rw[show j=all.length by omega,hall,e6]at this;simp[gI,h2,this]
    simp[e];rintro _ a b _ rfl;simp[Ej]
end
section
open Go.RowKit Go.Maps Go.Sort Go.Shelf Go.Proofs
open Go.ChangeMaps (setBlock)
section
variable{P:Program} {F:Fence} {n:Nat} (w:World) {ops:Array Oper} {rest:List Oper} {o:Oper} {a:Act} {Q:Exit->Act->World->Prop}
structure Fo(es:Array MapEntry)(vs:List MapEntry)(seen:Array Nat):Prop where
 mem:∀e∈vs,e∈es.toList
 nd:(vs.map (·.born)).Nodup
 seen:seen.toList=vs.map (·.born)
theorem Bp{es:Array MapEntry}{clock:Nat}(h:eR es clock):(es.toList.map (·.born)).Nodup:=by
 rw[List.Nodup,List.pairwise_map,List.pairwise_iff_getElem];intro i j hi hj hij e;have:=h.2 i j _ _ (by simp) (by simp) e;omega
theorem qP{α β:Type}{f:α->β}:∀{l:List α},(l.map f).Nodup->l.Nodup
 |[],_=>by simp
 |a::l,h=>by
  simp only[List.map_cons,List.nodup_cons]at h|-;exact⟨λhm=>h.1 (List.mem_map.2 ⟨a,hm,rfl⟩),qP h.2⟩
theorem Fo.perm{es:Array MapEntry}{clock:Nat}{vs:List MapEntry}{seen:Array Nat}(h:Fo es vs seen)(hb:eR es clock)(hl:(leftOf es seen).size=0):vs.Perm es.toList:=by
 refine(List.perm_ext_iff_of_nodup (qP h.nd) (qP (Bp hb))).2 λe=>⟨h.mem e,λhe=>?_⟩;have hs:e.born∈seen:=by
  have:leftOf es seen= #[]:=Array.eq_empty_of_size_eq_zero hl;unfold leftOf at this;rw[Array.filter_eq_empty_iff]at this;have:=this e (by simpa using he);simpa using this
 have hs':e.born∈vs.map (·.born):=by rw[<-h.seen];simpa using hs
 obtain⟨e',he',hee⟩:=List.mem_map.1 hs';obtain⟨i,hi,hie⟩:=List.getElem_of_mem he;obtain⟨j,hj,hje⟩:=List.getElem_of_mem (h.mem e' he');have:=hb.2 j i e' e (by rw[<-hje];simp) (by rw[<-hie];simp) hee;subst this;rw[<-hie,hje];exact he'
theorem Fo.step{es:Array MapEntry}{vs:List MapEntry}{seen:Array Nat}(h:Fo es vs seen){e:MapEntry}(he:e∈(leftOf es seen).toList):Fo es (vs++[e]) (seen.push e.born):=by
 unfold leftOf at he;simp only[Array.toList_filter,List.mem_filter,Bool.not_eq_true']at he;refine⟨λx hx=>?_,?_,by simp[h.seen]⟩
 ·rcases List.mem_append.1 hx with hx|hx
  ·exact h.mem x hx
  ·simp at hx;subst hx;exact he.1
 ·rw[List.map_append,List.nodup_append];refine⟨h.nd,by simp,λx hx y hy e'=>?_⟩;simp at hy;subst hy;subst e';rw[<-h.seen]at hx;have:=he.2;simp at this;exact this (by simpa using hx)
theorem Fp:∀{l m:List Nat},l.Nodup->(∀x∈l,x∈m)->l.length<=m.length
 |[],_,_,_=>Nat.zero_le _
 |a::l,m,h,hs=>by
  simp only[List.nodup_cons]at h;have ha:a∈m:=hs a (List.mem_cons_self ..);have:=Fp h.2 (m:=m.erase a) (λx hx=>(List.mem_erase_of_ne (show x≠a from λe=>by subst e;exact h.1 hx)).2 (hs x (List.mem_cons_of_mem _ hx)));rw[List.length_erase_of_mem ha]at this;have:=List.length_pos_of_mem ha;simp only[List.length_cons];omega
theorem Fo.size{es:Array MapEntry}{clock:Nat}{vs:List MapEntry}{seen:Array Nat}(h:Fo es vs seen)(hb:eR es clock):seen.size<=es.size:=by
 have h1:seen.size=vs.length:=by have:=congrArg List.length h.seen;simpa using this
 rw[h1];have:=Fp h.nd (m:=es.toList.map (·.born)) (λx hx=>by obtain⟨e,he,rfl⟩:=List.mem_map.1 hx;exact List.mem_map.2 ⟨e,h.mem e he,rfl⟩);simpa using this
theorem Ca{w:World}{r:Nat}{o o':Obj}(h:w.heap[r]? =some o):(setBlock w r o').heap[r]? =some o'/\∀k,k≠r->(setBlock w r o').heap[k]? =w.heap[k]? :=by
 have hlt:=(Array.getElem?_eq_some_iff.1 h).1;refine⟨by simp[setBlock,hlt],λk hk=>?_⟩;simp only[setBlock];rw[Array.getElem?_setIfInBounds_ne (λe=>hk e.symm)]
theorem nK(hg:o.guard=none)(m:Operand)(t:TypeId)(hop:o.op=Op.range t m)(k e:TypeId)(ht:P.underlying t=some (.map k e)){b clock:Nat}{es:Array MapEntry}(hm:a.eval m=.map (some b))(hb:w.heap[b]? =some (.map es clock))
 (hK:wpListIn F n P ops Q rest (a.put o.dst (.pointer (some ⟨w.heap.size,0,none⟩))) (w.alloc (.mapIter (some b) clock #[] clock))):wpListIn F n P ops Q (o::rest) a w:=by
 refine wpListIn_plain hg λK' hK'=>?_;have hrun:(Instr.range t (.map (some b))).run P w=.ok (.pointer (some ⟨w.heap.size,0,none⟩)) (w.alloc (.mapIter (some b) clock #[] clock)):=by
  simp[Instr.range,run_underlying ht,getObj,Sem.run,hb,Result.andThen,run_newObj_alloc]
 unfold Oper.wpIn;refine⟨by simp[Oper.about,hop],?_⟩;rw[Oper.semAt_plain F _ _ (by rw[hop];intro c hc';cases hc')];simp[execOp,hop,hm,hrun,Result.andThen];exact hK' _ _ hK
theorem oM(hg:o.guard=none)(it:Operand)(hop:o.op=Op.next it false){b r clock since c0:Nat}{es:Array MapEntry}{seen:Array Nat}{vs:List MapEntry}(hne:r≠b)(hit:a.eval it=.pointer (some ⟨r,0,none⟩))
 (hr:w.heap[r]? =some (.mapIter (some b) since seen c0))(hb:w.heap[b]? =some (.map es clock))(hborn:eR es clock)(hsc:since<=c0)(hcs:clock<=since)(hC:Fo es vs seen)
 (hDone:vs.Perm es.toList->wpListIn F n P ops Q rest (a.put o.dst (.tuple #[.bool false])) w)
 (hMore:∀(e:MapEntry) (w':World),e∈es.toList->Fo es (vs++[e]) (seen.push e.born)->w'.heap[r]? =some (.mapIter (some b) since (seen.push e.born) clock)->w.grownBy w' (some r)->w.drawn<=w'.drawn->
   (Instr.entry (.pointer (some ⟨r,0,none⟩))).run P w'=.ok (.tuple #[e.key,e.val]) w'->wpListIn F n P ops Q rest (a.put o.dst (.tuple #[.bool true,e.key,e.val])) w'):
 wpListIn F n P ops Q (o::rest) a w:=by
 refine wpListIn_plain hg λK' hK'=>?_;unfold Oper.wpIn;refine⟨by simp[Oper.about,hop],?_⟩;rw[Oper.semAt_plain F _ _ (by rw[hop];intro c hc';cases hc')];have hold:∀x∈es.toList,x.born<since:=λx hx=>by
  obtain⟨i,hi,hix⟩:=List.getElem_of_mem hx;have:=hborn.1 i x (by rw[<-hix];simp);omega
 rcases run_next_at (P:=P) w o.type r b since c0 seen es clock hr hb hold hsc with⟨h0,hrun⟩|⟨e,he,w1,hal,hrun⟩
 ·simp[execOp,hop,hit,hrun,Result.andThen];exact hK' _ _ (hDone (hC.perm hborn h0))
 ·have hr1:w1.heap[r]? =some (.mapIter (some b) since seen c0):=by rcases hal with rfl|rfl<;>exact hr
  have hb1:w1.heap[b]? =some (.map es clock):=by rcases hal with rfl|rfl<;>exact hb
  have hset:=Ca (o':=.mapIter (some b) since (seen.push e.born) clock) hr1;have hb':(setBlock w1 r (.mapIter (some b) since (seen.push e.born) clock)).heap[b]? =some (.map es clock):=(hset.2 b (λe1=>hne e1.symm)).trans hb1;have hem:e∈es.toList:=(mem_left he).1;simp[execOp,hop,hit,hrun,Result.andThen];refine hK' _ _ (hMore e _ hem (hC.step he) hset.1 ?_ ?_ (run_entry_at _ r b since seen es clock e hset.1 hb' hem (Bp hborn)))
  ·rcases hal with rfl|rfl<;>exact⟨rfl,rfl,rfl,by simp[setBlock],λi _ hi=>hset.2 i (λe1=>hi (by rw[e1]))⟩
  ·rcases hal with rfl|rfl
   ·exact Nat.le_refl _
   ·exact Nat.le_succ _
end
def DL(n r:Nat)(W:World):Nat:=n-(match W.heap[r]? with|some (.mapIter _ _ seen _)=>seen.size|_=>0)
theorem tP{n r:Nat}{W:World}{m:Option Nat}{a c:Nat}{seen:Array Nat}(h:W.heap[r]? =some (.mapIter m a seen c)):DL n r W=n-seen.size:=by simp[DL,h]
def xX(x:Nm):Value:=.agg #[.int .i64 x.who,.int .i64 x.seq]
set_option maxRecDepth 100000 in
theorem DM(F:Fence)(n:Nat)(hf:F.fn 210)(hro:F.round=none)(hn:1<=n){Bm ob b clock:Nat}{es:Array MapEntry}(W:World)(hm':W.cell? ⟨Bm,ob,none⟩=some (.map (some b)))
 (hb':W.heap[b]? =some (.map es clock))(hborn:eR es clock)(key:MapEntry->Nm)(hkey:∀e∈es.toList,e.key=xX (key e))(l:Nat)(J:List Nm->World->Prop)(hJ:Ny W.heap.size J)
 (hY:∀pre x W1,J pre W1->pre.length<es.size->YieldAt F (n-1) Tryz.prog l #[xX x] W1 λe W'=>e=.returned (.bool true)/\J (pre++[x]) W'/\KeepsWalks W1 W')(h0:J [] W):
 CallsIn F n Tryz.prog 210 #[.func (.yield l) #[] #[],.pointer (some ⟨Bm,ob,none⟩)] W λe W'=>(∃v,e=.returned v)/\∃ss:List Nm,ss.Perm (es.toList.map key)/\J ss W':=by
 have hbW:b<W.heap.size:=(Array.getElem?_eq_some_iff.1 hb').1;refine callsIn_of_wp Tryz.func210 rfl hf ?_ hro;simp only[Tryz.ntmps210,List.size_toArray,List.length_cons,List.length_nil,Nat.reduceAdd,Nat.reduceSub,Array.replicate_succ,Array.replicate_zero,List.push_toArray,List.append_toArray,List.nil_append,List.cons_append]
 gi_wp2_with (first
  |(gi_at_range;refine nK _ rfl _ _ rfl _ _ Tryz.underlying191 rfl hb' ?_)
  |gi_in)
 have hg0:W.grownBy (W.alloc (.mapIter (some b) clock #[] clock)) none:=World.grownBy_alloc W _ none;have hr0:(W.alloc (.mapIter (some b) clock #[] clock)).heap[W.heap.size]? =some (.mapIter (some b) clock #[] clock):=heap_alloc_new W _;have hb0:(W.alloc (.mapIter (some b) clock #[] clock)).heap[b]? =some (.map es clock):=(hg0.block b hbW (by simp)).trans hb';have hJ0:=hJ [] W _ none h0 hg0 (Nat.le_refl _) (λr e=>by cases e);generalize W.alloc (.mapIter (some b) clock #[] clock)=w0 at*;try go_frame
 gi_loopw [3] (λ_ wr=>∃(vs:List MapEntry) (seen:Array Nat) (c0:Nat),wr.heap[W.heap.size]? =some (.mapIter (some b) clock seen c0)/\wr.heap[b]? =some (.map es clock)/\clock<=c0/\Fo es vs seen/\J (vs.map key) wr)
  (λ_ wr=>DL es.size W.heap.size wr)
 case atStart=>
  exact⟨[],#[],clock,hr0,hb0,Nat.le_refl _,⟨by simp,by simp,by simp⟩,hJ0⟩
 case round=>
  obtain⟨vs,seen,c0,hr,hbr,hcc,hC,hJs⟩:=hrel
  gi_wp2_with (first
   |(gi_at_next;refine oM _ rfl _ rfl (Nat.ne_of_gt hbW) rfl hr hbr hborn hcc (Nat.le_refl _) hC ?_ ?_)
   |gi_in)
  ·intro hp
   gi_wp2
   go_end0
   exact⟨⟨_,rfl⟩,vs.map key,hp.map key,hJs⟩
  ·intro e w2 he hC2 hr2 hg2 hd2 hen;have hJ2:J (vs.map key) w2:=hJ _ wr w2 (some W.heap.size) hJs hg2 hd2 (λr e=>by cases e;exact⟨Nat.le_refl _,_,hr,rfl⟩);have hb2:w2.heap[b]? =some (.map es clock):=(hg2.block b (Array.getElem?_eq_some_iff.1 hbr).1 (λe=>by injection e with e;omega)).trans hbr;have hsz:=hC2.size hborn;have hvs:seen.size=vs.length:=by have:=congrArg List.length hC.seen;simpa using this
   have hg3:w2.grownBy (w2.alloc (.cells #[.int .i64 (key e).who,.int .i64 (key e).seq] 29)) none:=World.grownBy_alloc w2 _ none;obtain⟨fn,tmps,assign,body,hy,hR⟩:=hY (vs.map key) (key e) _ (hJ _ _ _ none hJ2 hg3 (Nat.le_refl _) (λr e=>by cases e)) (by simp at hsz|-;omega);have hr3:=(hg3.block _ (Array.getElem?_eq_some_iff.1 hr2).1 (by simp)).trans hr2;have hb3:=(hg3.block _ (Array.getElem?_eq_some_iff.1 hb2).1 (by simp)).trans hb2;rw[hkey e (by simpa using he)]at hen|-;unfold xX at hen hy|-
   gi_wp2
   refine hR.mono ?_;rintro e' W3 ⟨rfl,hJ3,hk3⟩
   gi_wp2
   have hr4:=hk3.same _ _ hr3 rfl;have hb4:=hk3.same _ _ hb3 rfl
   go_roundw
   case rel=>exact⟨vs++[e],seen.push e.born,clock,hr4,hb4,Nat.le_refl _,hC2,by simpa using hJ3⟩
   case measure=>rw[tP hr4,tP hr];simp at hsz|-;omega
def PG(b0:Option Nat)(W0:World)(l:List Nm)(ss:List Nm)(W:World):Prop:=
 ∃v gb,W.heap[W0.heap.size]? =some (.cells #[v] 36 (0,0))/\lU 2 b0 W0.heap.size W v (l.length+ss.length) ((l++ss).flatMap Nm.enc) gb/\gb≠some W0.heap.size/\zB b0 W0 W/\uH (l.length*2) b0 W0 W
theorem LH(b0:Option Nat)(W0:World)(l:List Nm)(hb0:∀b,b0=some b->b<W0.heap.size):Ny (W0.heap.size+1) (PG b0 W0 l):=by
 rintro ss W W' row ⟨v,gb,h1,h2,h3,h4,h5⟩ hg hd hr;have hrow:∀{k:Nat} {cur:Array Value} {e:TypeId},W.heap[k]? =some (.cells cur e (0,0))->some k≠row:=λhk e=>by
  obtain⟨_,o,ho,hc⟩:=hr _ e.symm;rw[hk]at ho;cases ho;cases hc
 refine⟨v,gb,(hg.block _ (Array.getElem?_eq_some_iff.1 h1).1 (hrow h1)).trans h1,h2.kept hg ?_,h3,h4.step hg hd (λr e=>.inr (by have:=(hr r e).1;omega)),h5.step hg ?_⟩;rcases h2.lies with⟨rfl,_⟩|⟨g,cap,cur,e,rfl,_,_,hb,_⟩
 ·exact .inl rfl
 ·exact .inr (hrow hb)
 ·cases hb:b0 with
  |none=>exact .inl rfl
  |some g=>exact .inr λe=>by have:=(hr g e.symm).1;have:=hb0 g hb;omega
set_option maxRecDepth 100000 in
theorem Fq(W0:World)(v0:Value)(l:List Nm)(b0:Option Nat)(hrow:lU 2 b0 W0.heap.size W0 v0 l.length (l.flatMap Nm.enc) b0)(hb0:∀b,b0=some b->b<W0.heap.size){Bm ob b clock:Nat}{es:Array MapEntry}(hm:W0.cell? ⟨Bm,ob,none⟩=some (.map (some b)))(hBm:some Bm≠b0)
 (hb:W0.heap[b]? =some (.map es clock))(hbb:some b≠b0)(hborn:eR es clock)(key:MapEntry->Nm)(hkey:∀e∈es.toList,e.key=xX (key e))(hN:(l.length+es.size)*16<=140737488355328):
 Calls Tryz.prog 139 #[v0,.func (.func 210) #[] #[.pointer (some ⟨Bm,ob,none⟩)]] W0 λe W'=>
  ∃v ss gb,e=.returned v/\List.Perm ss (es.toList.map key)/\lU 2 b0 W0.heap.size W' v (l.length+ss.length) ((l++ss).flatMap Nm.enc) gb/\zB b0 W0 W'/\uH (l.length*2) b0 W0 W':=by
 refine(callsIn_wide (n:=6)).1 ?_;obtain⟨ba,bn,bc,hv0⟩:∃ba bn bc,v0=.slice ba bn bc:=by
  rcases hrow.lies with⟨_,_,a,rfl⟩|⟨g,cap,cur,e,_,rfl,_⟩
  ·exact⟨_,_,_,rfl⟩
  ·exact⟨_,_,_,rfl⟩
 subst hv0;have hBml:Bm<W0.heap.size:=World.block_lt_of_cell? W0 _ hm;have hbl:b<W0.heap.size:=(Array.getElem?_eq_some_iff.1 hb).1;refine callsIn_of_wp_marks Tryz.func139 rfl trivial ?_ rfl;simp only[Tryz.ntmps139,List.size_toArray,List.length_cons,List.length_nil,Nat.reduceAdd,Nat.reduceSub,Array.replicate_succ,Array.replicate_zero,List.push_toArray,List.append_toArray,List.nil_append,List.cons_append]
 gi_wp2
 obtain⟨W1,hW1⟩:∃W1,W0.alloc (.cells #[.slice ba bn bc] 36)=W1:=⟨_,rfl⟩;have hs1:W1.heap.size=W0.heap.size+1:=by rw[<-hW1];simp
 have hg1:W0.grownBy W1 none:=by rw[<-hW1];exact World.grownBy_alloc W0 _ none
 have hd1:W0.drawn<=W1.drawn:=by rw[<-hW1];exact Nat.le_refl _
 have hv1:W1.heap[W0.heap.size]? =some (.cells #[.slice ba bn bc] 36 (0,0)):=by rw[<-hW1];exact heap_alloc_new W0 _
 rw[hW1];clear hW1;refine lT (enc:=xX) (N:=es.size) (S:=λss=>List.Perm ss (es.toList.map key)) rfl (by omega) rfl trivial (enters_of Tryz.func210 (by kernel_rfl) rfl) (PG b0 W0 l) (by rw[hs1];exact LH b0 W0 l hb0)
  ⟨.slice ba bn bc,b0,hv1,by simpa using hrow.kept hg1 (by cases b0<;>simp),λe=>by have:=hb0 _ e;omega,(zB.refl b0 W0).step hg1 hd1 (λr e=>by cases e),(uH.refl _ b0 W0).step hg1 (by cases b0<;>simp)⟩ ?_
  (λx a' W=>∃Bv,a'=⟨#[.slice ba bn bc,.func (.func 210) #[] #[.pointer (some ⟨Bm,ob,none⟩)],.pointer (some ⟨W0.heap.size,0,none⟩),undef,.slice none 0 0,.pointer (some ⟨Bv,0,none⟩),.func (.func 210) #[] #[.pointer (some ⟨Bm,ob,none⟩)],xX x,undef,undef,undef,undef,undef],[]⟩/\W.heap[Bv]? =some (.cells #[.int .i64 x.who,.int .i64 x.seq] 29 (0,0))) ?_ ?_ ?_ ?_
 ·intro l' J W2 hI hsz hJ hY hJ0;obtain⟨v,gb,q1,q2,q3,q4,q6⟩:=hI;exact DM _ 5 trivial rfl (by omega) W2 ((World.cell?_of_block (q4.block Bm hBml hBm)).trans hm) ((q4.block b hbl hbb).trans hb) hborn key hkey l' J hJ hY hJ0
 ·rintro x a' s W W' row ⟨Bv,h1,h2⟩ hg hd hr;refine⟨Bv,h1,(hg.block _ (Array.getElem?_eq_some_iff.1 h2).1 (λe=>?_)).trans h2⟩;obtain⟨_,o,ho,hc⟩:=hr _ e.symm;rw[h2]at ho;cases ho;cases hc
 ·intro l' pre x W K hI hK;change Code.wpIn (Fence.wide.inRound l') (6-1-1) Tryz.prog _ _ ⟨#[.slice ba bn bc,.func (.func 210) #[] #[.pointer (some ⟨Bm,ob,none⟩)],.pointer (some ⟨W0.heap.size,0,none⟩),undef,.slice none 0 0,undef,.func (.func 210) #[] #[.pointer (some ⟨Bm,ob,none⟩)],xX x,undef,undef,undef,undef,undef],[]⟩ W;have hK':=hK _ (W.alloc (.cells #[.int .i64 x.who,.int .i64 x.seq] 29)) (World.grownBy_alloc W _ none) (Nat.le_refl _) ⟨W.heap.size,rfl,heap_alloc_new W _⟩;clear hK;unfold xX at hK'|-
  gi_wp2_with gi_round_op_a
  exact hK'
 ·rintro l' pre x a' W ⟨v,gb,q1,q2,q3,q4,q6⟩ ⟨Bv,rfl,hBv⟩ hlen;obtain⟨hc1,hf1⟩:=cell_of_box_a q1;have hk0:W.cell? ⟨Bv,0,none⟩=some (.int .i64 x.who):=by simp[World.cell?,hBv]
  have hk1:W.cell? ⟨Bv,1,none⟩=some (.int .i64 x.seq):=by simp[World.cell?,hBv]
  obtain⟨inf,d,z,i1,i2,i3,i4,i5,i6,i7⟩:=hT.parts (t:=29) (by simp[TK.isNone]);simp at i4 i5 i7;obtain⟨va,vn,vc,hv⟩:∃va vn vc,v=.slice va vn vc:=by
   rcases q2.lies with⟨_,_,a,rfl⟩|⟨g,cap,cur,e,_,rfl,_⟩
   ·exact⟨_,_,_,rfl⟩
   ·exact⟨_,_,_,rfl⟩
  subst hv;have hWs:W0.heap.size<W.heap.size:=(Array.getElem?_eq_some_iff.1 q1).1;have q5:lU 2 b0 W0.heap.size (W.alloc (.cells #[.int .i64 x.who,.int .i64 x.seq] 29)) (.slice va vn vc) (l.length+pre.length) ((l++pre).flatMap Nm.enc) gb:=q2.kept (World.grownBy_alloc W _ none) (by cases gb<;>simp);have hnew:∀(j:Nat) (u:Value),[Value.int .i64 x.who,Value.int .i64 x.seq][j]? =some u->(W.alloc (.cells #[.int .i64 x.who,.int .i64 x.seq] 29)).cell? ⟨W.heap.size,j,none⟩=some u:=λj u hj=>by
   have:=heap_alloc_new W (.cells #[.int .i64 x.who,.int .i64 x.seq] 29);simp only[World.cell?,this];simpa using hj
  gi_wp2_with (first
   |(gi_at_builtin;refine mC _ rfl _ _ 36 rfl Tryz.underlying36 i1 i6 i4 (by rw[<-Array.length_toList,i7];rfl) (by decide) rfl q5 (by simp;omega) rfl (news:=[.int .i64 x.who,.int .i64 x.seq]) rfl (by simp[Value.oneCell']) hnew (by rw[i5];omega) (by omega) ?_;intro v' W3 g' r1 r2 r3 r4 r5
     have hv3:W3.heap[W0.heap.size]? =some (.cells #[.slice va vn vc] 36 (0,0)):=(r2.block _ (by simp;omega) (λe=>q3 e.symm)).trans ((heap_alloc_old W _ hWs).trans q1);obtain⟨hc3,hf3⟩:=cell_of_box_a hv3;obtain⟨cap',cur',e',rfl,s2,s3,s4,s5,s6,s7⟩:∃cap' cur' e',v'=.slice (some ⟨g',0,none⟩) (l.length+pre.length+1) cap'/\(b0=some g'\/W0.heap.size<=g')/\W3.heap[g']? =some (.cells cur' e' (0,0))/\l.length+pre.length+1<=cap'/\cap'<=maxLen/\cap'*2=cur'.size/\cur'.toList.take ((l.length+pre.length+1)*2)=(l++pre).flatMap Nm.enc++[.int .i64 x.who,.int .i64 x.seq]:=by
      rcases r1.lies with⟨h,_⟩|⟨g,cap,cur,e,h,h1,h2,h3,h4,h5,h6,h7⟩
      ·cases h
      ·injection h with h;subst h;exact⟨cap,cur,e,h1,h2,h3,h4,h5,h6,h7⟩
     go_frame)
   |gi_round_op_a)
  have hg0:W.grownBy (W.alloc (.cells #[.int .i64 x.who,.int .i64 x.seq] 29)) none:=World.grownBy_alloc W _ none;have hd0:W.drawn<=(W.alloc (.cells #[.int .i64 x.who,.int .i64 x.seq] 29)).drawn:=Nat.le_refl _;have hgb:∀r,gb=some r->(b0=some r\/W0.heap.size<=r)/\∃cur e,W.heap[r]? =some (.cells cur e (0,0)):=λr e=>by
   rcases q2.lies with⟨h,_⟩|⟨g,cap,cur,e',h,_,h2,h3,_⟩
   ·rw[h]at e;cases e
   ·rw[h]at e;injection e with e;subst e;exact⟨h2,cur,e',h3⟩
  have hgne:g'≠W0.heap.size:=by
   rcases r4 with h|h
   ·exact λe=>q3 (by rw[h,e])
   ·rw[h];simp;omega
  generalize W.alloc (.cells #[.int .i64 x.who,.int .i64 x.seq] 29)=W2 at*;have hg4:W3.grownBy (W3.setCell ⟨W0.heap.size,0,none⟩ (.slice (some ⟨g',0,none⟩) (l.length+pre.length+1) cap')) (some W0.heap.size):=grownBy_setCell0_a _ _ _;refine⟨⟨Nat.le_trans hg0.size (Nat.le_trans r2.size hg4.size),λk o hk ho hcell=>?_⟩,((KeepsWalks.of_grownBy hg0 (λj o e=>by cases e)).trans (KeepsWalks.of_grownBy r2 (λj o e ho=>?_))).trans (KeepsWalks.setCell _ _ _),
   .slice (some ⟨g',0,none⟩) (l.length+pre.length+1) cap',some g',heap_setCell_box_a _ hv3,?_,λe=>hgne (by injection e),((q4.step hg0 hd0 (λr e=>by cases e)).step r2 r3 (λr e=>(hgb r e).1)).step hg4 (Nat.le_refl _) (λr e=>.inr (by injection e with e;omega)),((q6.step hg0 (by cases b0<;>simp)).write (by rw[Nat.add_mul];omega) r2 r5).step hg4 ?_⟩
  ·have h2:=(hg0.block k (Array.getElem?_eq_some_iff.1 ho).1 (by simp)).trans ho;have h3:=(r2.block k (Array.getElem?_eq_some_iff.1 h2).1 (λe=>by
    obtain⟨_,cur,e',h⟩:=hgb k e.symm;rw[ho]at h;cases h;cases hcell)).trans h2
   exact(hg4.block k (Array.getElem?_eq_some_iff.1 h3).1 (λe=>by injection e with e;omega)).trans h3
  ·obtain⟨_,cur,e',h⟩:=hgb j e;have h2:=(hg0.block j (Array.getElem?_eq_some_iff.1 h).1 (by simp)).trans h;rw[ho]at h2;cases h2;rfl
  ·have:=r1.kept hg4 (.inr (λe=>hgne (by injection e)));simpa [Nm.enc,Nat.add_assoc]using this
  ·cases hb:b0 with
   |none=>exact .inl rfl
   |some g=>exact .inr λe=>by injection e with e;have:=hb0 g hb;omega
 ·rintro D xs W hD hS ⟨v,gb,q1,q2,q3,q4,q6⟩ hdef;obtain⟨hc1,hf1⟩:=cell_of_box_a q1
  gi_wp2
  refine⟨by simp,.inl ⟨_,_,rfl,run_takeDeferred hdef,?_⟩⟩;refine⟨_,results_tmp rfl _ _ _,v,xs,gb,rfl,hS,q2.kept (grownBy_putObj_a _ _ _) ?_,q4.step (grownBy_putObj_a _ _ _) (Nat.le_refl _) (λr e=>.inr (by injection e with e;omega)),q6.step (grownBy_putObj_a _ _ _) ?_⟩;rcases q2.lies with⟨h,_⟩|⟨g,cap,cur,e',h,_,h2,h3,_⟩
  ·exact .inl h
  ·refine .inr λe=>?_;rw[h]at e;injection e with e;subst e
   rw[hdef]at h3;cases h3
  ·cases hb:b0 with
   |none=>exact .inl rfl
   |some g=>exact .inr λe=>by injection e with e;have:=hb0 g hb;omega
end
section
attribute[local simp] bA bW aQ aZ
def sS(e:MapEntry):Nm:=match e.key with
 | .agg cs=>match cs.toList with
   |[.int _ a,.int _ b]=>⟨a,b⟩
   |_=>default
 |_=>default
theorem PH{w:World}{E:Nat->Prop}{n:Nm}{v:Value}(h:RD w E n.d v):v=xX n:=(Oc n w E v).1 h
theorem Im{l:List Nm}:(l.map Nm.d).length=l.length:=by simp
theorem Cb(l s:List Nm)(ds:List DV)(hN:(l.length+s.length)*16<=140737488355328):
 Ks Tryz.prog 139 [.ow 0 0 l.length,.d (.fn 210 [.ro [.mp (s.map Nm.d) ds]])] [(0,.row false 2 (l.map Nm.d))]
  (λfin ret=>∃p:List Nm,p.Perm s/\fin=[(0,.dead),(1,.row false 2 ((l++p).map Nm.d))]/\ret=.ow 1 0 (l.length+p.length)):=by
 refine⟨⟨_,Tryz.func139,by kernel_rfl,by rfl⟩,λw X β vs m hvl hr=>?_⟩;have hH:aL [(0,aV.row false 2 (l.map Nm.d))] 0=.row false 2 (l.map Nm.d):=by simp[aL,gP]
 have hH1:aL [(0,aV.row false 2 (l.map Nm.d))] 1=.absent:=by simp[aL,gP]
 have hfin:∀o,aL [(0,.dead),(1,o)]=bU (bU (aL [(0,aV.row false 2 (l.map Nm.d))]) 0 .dead) 1 o:=λo=>by
  funext j;simp only[aL,gP,bU];by_cases h0:j=0<;>by_cases h1:j=1<;>simp_all
 generalize hHd:aL [(0,aV.row false 2 (l.map Nm.d))]=H at*
 match vs,hvl with
 |[v0,v1],_=>
 have r0:=hr 0 _ _ rfl rfl;have r1:=hr 1 _ _ rfl rfl;obtain⟨Bm,ob,b,clock,arr,rfl,hcell,hBm,hblk,hb,hk,hborn,hkey⟩:∃Bm ob b clock arr,v1=.func (.func 210) #[] #[.pointer (some ⟨Bm,ob,none⟩)]/\w.cell? ⟨Bm,ob,none⟩=some (.map (some b))/\¬Ex X β H Bm/\w.heap[b]? =some (.map arr clock)/\¬Ex X β H b/\
  (s.map Nm.d).length=arr.size/\eR arr clock/\∀(i:Nat) (d:DV) (e:MapEntry),(s.map Nm.d)[i]? =some d->arr[i]? =some e->RD w (Ex X β H) d e.key:=by
  cases r1 with
  |d _ _ h=>cases h with
   |fn _ _ us hl hc=>
    match us,hl with
    |[u],_=>
    have h0:=hc 0 _ u rfl rfl;cases h0 with
    |ro _ Bm ob us2 hBm hul _ _ hcell h=>
     match us2,hul with
     |[u2],_=>
     have h2:=h 0 _ u2 rfl rfl;have hc2:=hcell 0 u2 rfl;cases h2 with
     |mp _ _ b clock arr hb _ hblk hk _ hborn hkey _=>exact⟨Bm,ob,b,clock,arr,rfl,by simpa using hc2,hBm,hblk,hb,hk,hborn,hkey⟩
 rw[Im]at hk;have hkeys:∀(i:Nat) (h1:i<s.length) (h2:i<arr.size),arr[i].key=xX s[i]:=λi h1 h2=>PH (hkey i _ _ (by simp[h1]) (Array.getElem?_eq_getElem h2));have hk2:∀e∈arr.toList,e.key=xX (sS e):=λe he=>by
  obtain⟨i,hi,rfl⟩:=List.getElem_of_mem he;have hi':i<arr.size:=by simpa using hi
  have:=hkeys i (by omega) hi';simp only[Array.getElem_toList];simp[sS,this,xX]
 have hmap:arr.toList.map sS=s:=by
  apply List.ext_getElem (by simpa using hk.symm);intro i h1 h2;have:=hkeys i h2 (by omega);simp[sS,this,xX]
 have hmut:(H 0).mut=true:=by rw[hH];rfl
 have finish:∀(b0:Option Nat),((b0=none/\l=[])\/(∃g,b0=some g/\β 0=some g/\∃cur e,w.heap[g]? =some (.cells cur e (0,0))/\cur.toList.take (l.length*2)=l.flatMap Nm.enc))->lU 2 b0 w.heap.size w v0 l.length (l.flatMap Nm.enc) b0->
  Calls Tryz.prog 139 #[v0,.func (.func 210) #[] #[.pointer (some ⟨Bm,ob,none⟩)]] w λe w'=>∃v β' fin ret,(∃p:List Nm,p.Perm s/\fin=[(0,.dead),(1,.row false 2 ((l++p).map Nm.d))]/\ret=.ow 1 0 (l.length+p.length))/\e=.returned v/\
   cV ⟨w,β,H,[(0,aV.row false 2 (l.map Nm.d))].map (·.1),false⟩ X (aL fin) β' w'/\R w' (Ex X β' (aL fin)) β' (aL fin) ret v:=by
  intro b0 hb0 hrow;have hE:∀x,¬Ex X β H x->some x≠b0:=λx hx e=>by
   rcases hb0 with⟨h,_⟩|⟨g,h,hg,_⟩
   ·rw[h]at e;cases e
   ·rw[h]at e;injection e with e;subst e;exact hx (.inr ⟨0,hmut,hg⟩)
  refine(Fq w v0 l b0 hrow (λg hg=>?_) hcell (hE _ hBm) hblk (hE _ hb) hborn sS hk2 (by rw[<-hk];exact hN)).mono ?_
  ·rcases hb0 with⟨h,_⟩|⟨g',h,_,cur,e,hc,_⟩
   ·rw[h]at hg;cases hg
   ·rw[h]at hg;injection hg with hg;subst hg;exact(Array.getElem?_eq_some_iff.1 hc).1
  ·rintro e w' ⟨v,ss,gb,rfl,hp,hr',hst,hhd⟩;rw[hmap]at hp;obtain⟨β',hm,hR⟩:=m.appended wN (id:=0) (new:=1) hH hH1 hb0 hr' hst hhd;exact⟨v,β',_,_,⟨ss,hp,rfl,rfl⟩,rfl,by rw[hfin];exact hm,by rw[hfin];exact hR⟩
 rcases lQ m hH r0 with⟨g,c,cur,e,rfl,hg,hkn,hn,hc,hblk',hroom,hcap⟩|⟨p,rfl,hz,_⟩
 ·have hob:=m.obj 0;simp only[cP,hH]at hob;obtain⟨hpos,hall,hob⟩:=hob;rcases hob with⟨hnone,_⟩|⟨b',e',cur',hb',hblk2,hlen',hpo⟩
  ·rw[hnone]at hg;cases hg
  rw[hg]at hb';injection hb' with hb';subst hb'
  rw[hblk']at hblk2;injection hblk2 with hblk2;injection hblk2 with p1 p2;subst p1;subst p2
  rw[Im]at hlen';have htk:=wN.holds hlen' (λi c v hc hv=>(hpo i c v hc hv).2);refine finish (some g) (.inr ⟨g,rfl,hg,cur,e,hblk',htk⟩) ⟨wN.flat_len l,λu hu=>?_,.inr ⟨g,c,cur,e,rfl,by simp,.inl rfl,hblk',hn,hc,by simpa using hroom,htk⟩⟩;obtain⟨x,_,hx⟩:=List.mem_flatMap.1 hu;exact wN.one x u hx
 ·have hl0:l=[]:=List.eq_nil_of_length_eq_zero hz;subst hl0;exact finish none (.inl ⟨rfl,rfl⟩) ⟨rfl,by simp,.inl ⟨rfl,rfl,p,rfl⟩⟩
theorem JE(ks vs:List DV):Ok Tryz.prog 140 [.mp ks vs] ⟨.d (.fn 210 [.ro [.mp ks vs]]),false⟩:=by
 refine bE Tryz.func140 rfl Tryz.ntmps140 Tryz.results140 λw0 X hp=>?_;refine aA ?_;simp;refine aA ?_;simp;refine aN ?_;simp
theorem CH{α:Type}[DecidableEq α]:∀{l m:List α},l.Nodup->(∀x∈l,x∈m)->l.length<=m.length
 |[],_,_,_=>Nat.zero_le _
 |a::l,m,h,hs=>by
  simp only[List.nodup_cons]at h;have ha:a∈m:=hs a (List.mem_cons_self ..);have:=CH h.2 (m:=m.erase a) (λx hx=>(List.mem_erase_of_ne (show x≠a from λe=>by subst e;exact h.1 hx)).2 (hs x (List.mem_cons_of_mem _ hx)));rw[List.length_erase_of_mem ha]at this;have:=List.length_pos_of_mem ha;simp only[List.length_cons];omega
theorem JF{l:List Ed}{n m:Nm}(h:lV l n m):m∈bC l:=by
 induction h with
 |one h=>exact mP h
 |next _ _ ih=>exact ih
theorem Bq(l:List Ed)(n:Nm):(bZ l n).length<=(bC l).length:=CH (DE l n) λx hx=>JF (jB.1 hx)
theorem Fr(l:List Ed)(set:List Nm)(hl:set.length<=1100000)(hn:(bC l).length<=1100000):Ok Tryz.prog 73 [bT l,bY set] ⟨.tup [.own 2 ((sP l set).1.map Nm.d),.d (aT (sP l set).2)],true⟩:=by
 refine AV Tryz.func73 (by kernel_rfl) (c:=_) rfl Tryz.ntmps73 (by simp) Tryz.results73 rfl λw0 X hp=>?_;refine aA ?_;simp;refine aS hT hW (λ|10=>some<| .plain ⟨.own 2 (set.map Nm.d),true⟩|_=>none) ?_;simp;refine⟨Bj set (by omega),?_⟩;refine aB ?_;refine aA ?_;simp;refine aF ?_;refine aJ (ι:=Nat×List Nm) (λ⟨i,out⟩=>aU [(0,.d (bT l)),(6,.ow 6 0 out.length),(11,.d (bY set)),(12,.d (aT set.length)),(13,.d (aT i))]) (λ⟨i,out⟩=>aL [(6,.row false 2 (out.map Nm.d))]) (λ⟨i,out⟩=>i<=set.length/\out.length<=set.length+i*1100000/\out.Perm (set++(set.take i).flatMap (bZ l))) (λ⟨i,out⟩=>set.length-i) (0,set) (aC hp [0,6,11,12,13] [(10,6)]) (by simp) λ⟨i,out⟩ hi3=>?_;refine aA ?_;simp;refine aB ?_;refine aD ?_;simp;refine⟨λh3=>?_,λh3=>?_⟩
 ·refine aH ?_;simp;refine aB ?_;refine aF ?_;refine aA ?_;simp[h3];obtain⟨q1,q2,q3⟩:=hi3;have hab:=Bq l set[i];have hip:i*1100000<=set.length*1100000:=Nat.mul_le_mul_right _ q1;refine zA hT hW 22 [(6,0)] [(1,22)] [1] (λfin ret=>∃p:List Nm,p.Perm (bZ l set[i])/\fin=[(0,.dead),(1,.row false 2 ((out++p).map Nm.d))]/\ret=.ow 1 0 (out.length+p.length)) _ _ ⟨bZ l set[i],List.Perm.refl _,rfl,rfl⟩ (λ|20=>some<| .plain ⟨.d (.mp (List.map Nm.d (bZ l set[i])) (List.map (λ_=>.bool true) (bZ l set[i]))),false⟩|21=>some<| .plain ⟨.d (.fn 210 [.ro [.mp (List.map Nm.d (bZ l set[i])) (List.map (λ_=>.bool true) (bZ l set[i]))]]),false⟩|_=>none) (by intro d;first|exact⟨rfl,λ_ h=>h⟩|(split<;>exact⟨rfl,λ_ h=>h⟩)) (by kernel_rfl) λr5 hr5=>?_;obtain⟨fin5,ret5⟩:=r5;obtain⟨p,hp5,rfl,rfl⟩:=hr5;simp;refine⟨⟨⟨Fb l set[i],JE _ _⟩,by simpa using Cb out (bZ l set[i]) _ (by omega)⟩,?_⟩;refine aG ?_;simp;refine⟨by omega,?_⟩;refine aI (i+1,out++p) (aC hp [0,6,11,12,13] [(22,6)]) ?_ ?_
  ·refine⟨h3,?_,?_⟩
   ·have:=hp5.length_eq;simp only[List.length_append,Nat.add_mul];omega
   ·rw[List.take_succ_eq_append_getElem h3,List.flatMap_append];simp only[List.flatMap_cons,List.flatMap_nil,List.append_nil];rw[<-List.append_assoc];exact q3.append hp5
  ·omega
 ·refine aO ?_;simp;refine aB ?_;refine aB ?_;obtain⟨q1,q2,q3⟩:=hi3;have hi':i=set.length:=by omega
  rw[hi',List.take_length]at q3;have hcv:=BX q3;have hil:i*1100000<=1100000*1100000:=Nat.mul_le_mul_right _ (by omega);refine eG.ro hT hW (λ|26=>some<| .plain ⟨.d (.bool (eJ l out)),true⟩|_=>none) ?_;simp;refine⟨qO l out,?_⟩;refine aD ?_;simp;refine⟨λh7=>?_,λh7=>?_⟩
  ·refine aA ?_;simp;refine aN ?_;simp[hcv,h7]
  ·refine aH ?_;simp;refine aS hT hW (λ|29=>some<| .plain ⟨.own 2 ((aY out).map Nm.d),true⟩|_=>none) ?_;simp;refine⟨sR out (by omega),?_⟩;refine aN ?_;simp[hcv,h7]
end
section
attribute[local simp] bA bW aQ aZ
def Ab(l:List Ed)(n:Nm)(o:List Nm):Prop:=(∀x,x∈o↔lV l n x)/\o.length<=2*(bC l).length
theorem qQ:∀{l:List Ed} {e:Ed},e∈l->e.needs.length<=(l.flatMap Ed.needs).length
 |a::l,e,h=>by
  simp only[List.flatMap_cons,List.length_append];rcases List.mem_cons.1 h with rfl|h
  ·omega
  ·have:=qQ h;omega
theorem oN{l:List Ed}{n:Nm}:(aX l n).length<=(bC l).length:=by
 unfold aX;split
 ·rename_i i h;obtain⟨hi,_,_⟩:=Aa h;simp only[List.getD_eq_getElem?_getD,List.getElem?_eq_getElem hi,Option.getD_some];exact qQ (List.getElem_mem hi)
 ·simp
theorem OT(l:List Ed)(M:List Nm):mu l M<=(bC l).length:=List.length_filter_le _ _
structure Fs(l:List Ed)(n:Nm)(out:List Nm)(i:Nat):Prop where
 reach:∀x∈out,lV l n x
 first:∀x∈aX l n,x∈out
 done:∀(j:Nat) (h:j<out.length),j<i->∀x∈aX l out[j],x∈out
 size:mu l out+out.length<=2*(bC l).length
theorem Ft(l:List Ed)(n:Nm):Fs l n (aX l n) 0:=
 ⟨λx h=>.one h,λx h=>h,λj _ h=>absurd h (Nat.not_lt_zero _),by have:=OT l (aX l n);have:=oN (l:=l) (n:=n);omega⟩
theorem Fs.step{l:List Ed}{n:Nm}{out o:List Nm}{i:Nat}(h:Fs l n out i)(hi:i<out.length)(hp:out<+:o)(hr:∀x∈o,lV l n x)(hd:∀x∈aX l out[i],x∈o)(hs:mu l o+o.length<=mu l out+out.length):Fs l n o (i+1):=by
 have hsub:∀x∈out,x∈o:=λx hx=>hp.subset hx;refine⟨hr,λx hx=>hsub x (h.first x hx),λj hj hji x hx=>?_,by have:=h.size;omega⟩;have hjo:j<out.length:=by omega
 have e:o[j]=out[j]:=(List.IsPrefix.getElem hp hjo).symm;rw[e]at hx;by_cases hj2:j<i
 ·exact hsub x (h.done j hjo hj2 x hx)
 ·have:j=i:=by omega
  subst this;exact hd x hx
theorem Fs.above{l:List Ed}{n:Nm}{out:List Nm}{i:Nat}(h:Fs l n out i)(hi:out.length<=i):Ab l n out:=by
 refine⟨λx=>⟨h.reach x,λhr=>?_⟩,by have:=h.size;omega⟩;have key:∀{m k:Nm},lV l m k->(m=n\/m∈out)->k∈out:=by
  intro m k hr;induction hr with
  |one hm=>
   rintro(rfl|hmo)
   ·exact h.first _ hm
   ·obtain⟨j,hj,rfl⟩:=List.getElem_of_mem hmo;exact h.done j hj (by omega) _ hm
  |next hm _ ih=>
   rintro(rfl|hmo)
   ·exact ih (.inr (h.first _ hm))
   ·obtain⟨j,hj,rfl⟩:=List.getElem_of_mem hmo;exact ih (.inr (h.done j hj (by omega) _ hm))
 exact key hr (.inl rfl)
theorem LI(l:List Ed)(n:Nm)(hn:(bC l).length<=1100000):MX Tryz.prog 195 [bT l,n.d] (λr=>(λv=>∃o:List Nm,Ab l n o/\v=.d (bY o)) r.v/\r.fresh=true):=by
 refine MX.ret (Rel:=λv=>∃o:List Nm,Ab l n o/\v=.d (bY o)) Tryz.func195 (by kernel_rfl) (c:=_) rfl Tryz.ntmps195 (by simp) Tryz.results195 λw0 X hp=>?_;have hnl:=oN (l:=l) (n:=n);refine aA ?_;simp;refine aS hT hW (λ|12=>some<| .plain ⟨.d (bY (aX l n)),false⟩|_=>none) ?_;simp;refine⟨⟨EX l n,by omega⟩,?_⟩;refine aB ?_;refine aA ?_;simp;refine aF ?_;refine aJ (ι:=Nat×List Nm) (λ⟨i,out⟩=>aU [(0,.d (bT l)),(5,.ow 5 0 out.length),(6,.d (aT i))]) (λ⟨i,out⟩=>aL [(5,.row false 2 (out.map Nm.d))]) (λ⟨i,out⟩=>Fs l n out i) (λ⟨i,out⟩=>mu l out+(out.length-i)) (0,aX l n) (aC hp [0,5,6] [(13,5)]) (Ft l n) λ⟨i,out⟩ hi3=>?_;refine aB ?_;refine aA ?_;simp;refine aD ?_;simp;refine⟨λh3=>?_,λh3=>?_⟩
 ·refine aH ?_;simp;refine aB ?_;refine aF ?_;refine aS hT hW (λ|25=>some<| .plain ⟨.d (bY (aX l out[i])),false⟩|_=>none) ?_;simp[h3];refine⟨EX l out[i],?_⟩;refine aA ?_;simp;refine aF ?_;refine aJ (ι:=Nat×List Nm) (λ⟨k,o⟩=>aU [(0,.d (bT l)),(5,.ow 5 0 o.length),(6,.d (aT i)),(7,.d (bY (aX l out[i]))),(8,.d (aT k))]) (λ⟨k,o⟩=>aL [(5,.row false 2 (o.map Nm.d))]) (λ⟨k,o⟩=>k<=(aX l out[i]).length/\out<+:o/\(∀x∈o,lV l n x)/\(∀(j:Nat) (h:j<(aX l out[i]).length),j<k->(aX l out[i])[j]∈o)/\mu l o+o.length<=mu l out+out.length) (λ⟨k,o⟩=>(aX l out[i]).length-k) (0,out) (aC hp [0,5,6,7,8] [(5,5)]) (⟨Nat.zero_le _,List.prefix_refl _,hi3.reach,λj _ h=>absurd h (Nat.not_lt_zero _),Nat.le_refl _⟩) λ⟨k,o⟩ hi7=>?_;refine aB ?_;refine aA ?_;simp;refine aD ?_;simp;refine⟨λh7=>?_,λh7=>?_⟩
  ·refine aH ?_;simp;refine aB ?_;refine aF ?_;refine aS hT hW (λ|37=>some<| .plain ⟨.d (.bool (decide ((aX l out[i])[k]∈o))),true⟩|_=>none) ?_;simp[h7];refine⟨He o _,?_⟩;refine aD ?_;simp;refine⟨λh9=>?_,λh9=>?_⟩
   ·refine aG ?_;simp[h7];have hb1:=hi7.2.2.2.2;have hb2:=hi3.size;refine⟨by omega,?_⟩;refine aG ?_;simp;have hk:=oN (l:=l) (n:=out[i]);refine⟨by omega,?_⟩;refine aI (k+1,o++[(aX l out[i])[k]]) (aC hp [0,5,6,7,8] [(45,5)]) ?_ ?_
    ·obtain⟨q1,q2,q3,q4,q5⟩:=hi7;have hm:(aX l out[i])[k]∈aX l out[i]:=List.getElem_mem h7;refine⟨h7,q2.trans (List.prefix_append _ _),λx hx=>?_,λj hj hjk=>?_,?_⟩
     ·rcases List.mem_append.1 hx with hx|hx
      ·exact q3 x hx
      ·simp at hx;subst hx;exact(hi3.reach _ (List.getElem_mem h3)).snoc hm
     ·by_cases e:j=k
      ·subst e;simp
      ·exact List.mem_append_left _ (q4 j hj (by omega))
     ·have:=Ig (mP hm) h9;simp only[List.length_append,List.length_singleton];omega
    ·omega
   ·refine aH ?_;simp;refine aG ?_;simp;have hk:=oN (l:=l) (n:=out[i]);refine⟨by omega,?_⟩;refine aI (k+1,o) (aC hp [0,5,6,7,8] [(5,5)]) ?_ ?_
    ·obtain⟨q1,q2,q3,q4,q5⟩:=hi7;refine⟨h7,q2,q3,λj hj hjk=>?_,q5⟩;by_cases e:j=k
     ·subst e;exact h9
     ·exact q4 j hj (by omega)
    ·omega
  ·refine aO ?_;simp;refine aG ?_;simp;have hb2:=hi3.size;refine⟨by omega,?_⟩;refine aI (i+1,o) (aC hp [0,5,6] [(5,5)]) ?_ ?_
   ·exact hi3.step h3 hi7.2.1 hi7.2.2.1 (λx hx=>by obtain⟨j,hj,rfl⟩:=List.getElem_of_mem hx;exact hi7.2.2.2.1 j hj (by omega)) hi7.2.2.2.2
   ·have:=hi7.2.2.2.2;have:=(hi7.2.1).length_le;dsimp only;omega
 ·refine aO ?_;simp;refine aA ?_;simp;refine aN ?_;simp only[eA];refine⟨_,⟨out,hi3.above (by omega),rfl⟩,by simp,?_⟩;simp
theorem xY(l:List Ed)(a b:Nm)(hn:(bC l).length<=1100000):Ok Tryz.prog 124 [bT l,a.d,b.d] ⟨.d (.bool (decide (a∈bZ l b))),true⟩:=by
 refine bE Tryz.func124 rfl Tryz.ntmps124 Tryz.results124 λw0 X hp=>?_;refine aA ?_;simp;refine aB ?_;refine GX hT hW ON (lk [[],[],[0,1],[],[0,1,2,3],[0,1,2,3,4]]) (lk [[],[],[],[9],[],[]]) (lk [[],[],[9],[],[11],[]]) (by kernel_rfl) 9 (λr=>(∃o:List Nm,Ab l b o/\r.v=.d (bY o))/\r.fresh=true) true ⟨.d (bY (bZ l b)),true⟩ ⟨⟨⟨bZ l b,⟨λx=>jB,by have:=Bq l b;omega⟩,rfl⟩,rfl⟩,rfl⟩ (λ|11=>some<| .plain ⟨.d (.bool (decide (a∈bZ l b))),true⟩|_=>none) (by intro d;first|exact⟨rfl,λ_ h=>h⟩|(split<;>exact⟨rfl,λ_ h=>h⟩)) (by kernel_rfl) λr1 hr1=>?_;obtain⟨v1,f1⟩:=r1;obtain⟨⟨o,ho,hv⟩,hf⟩:=hr1;dsimp only at hv hf;subst hv;subst hf;have hmo:decide (a∈o)=decide (a∈bZ l b):=by rw[decide_eq_decide,ho.1,jB]
 simp;refine⟨⟨LI l b hn,by rw[<-hmo];exact He o a⟩,?_⟩;refine aN ?_;simp
end
open Go.RowKit Go.Maps Go.Sort Go.Shelf Go.Proofs
open Go.ChangeMaps (setBlock)
def qR(x:dO):Value:=.string ⟨x.toArray⟩
def dO.enc(x:dO):List Value:=[qR x]
set_option maxRecDepth 100000 in
theorem Cc(F:Fence)(n:Nat)(hf:F.fn 216)(hro:F.round=none)(hn:1<=n){Bm ob b clock:Nat}{es:Array MapEntry}(W:World)(hm':W.cell? ⟨Bm,ob,none⟩=some (.map (some b)))
 (hb':W.heap[b]? =some (.map es clock))(hborn:eR es clock)(key:MapEntry->dO)(hkey:∀e∈es.toList,e.key=qR (key e))(l:Nat)(J:List dO->World->Prop)(hJ:Ny W.heap.size J)
 (hY:∀pre x W1,J pre W1->pre.length<es.size->YieldAt F (n-1) Tryz.prog l #[qR x] W1 λe W'=>e=.returned (.bool true)/\J (pre++[x]) W'/\KeepsWalks W1 W')(h0:J [] W):
 CallsIn F n Tryz.prog 216 #[.func (.yield l) #[] #[],.pointer (some ⟨Bm,ob,none⟩)] W λe W'=>(∃v,e=.returned v)/\∃ss:List dO,ss.Perm (es.toList.map key)/\J ss W':=by
 have hbW:b<W.heap.size:=(Array.getElem?_eq_some_iff.1 hb').1;refine callsIn_of_wp Tryz.func216 rfl hf ?_ hro;simp only[Tryz.ntmps216,List.size_toArray,List.length_cons,List.length_nil,Nat.reduceAdd,Nat.reduceSub,Array.replicate_succ,Array.replicate_zero,List.push_toArray,List.append_toArray,List.nil_append,List.cons_append]
 gi_wp2_with (first
  |(gi_at_range;refine nK _ rfl _ _ rfl _ _ Tryz.underlying194 rfl hb' ?_)
  |gi_in)
 have hg0:W.grownBy (W.alloc (.mapIter (some b) clock #[] clock)) none:=World.grownBy_alloc W _ none;have hr0:(W.alloc (.mapIter (some b) clock #[] clock)).heap[W.heap.size]? =some (.mapIter (some b) clock #[] clock):=heap_alloc_new W _;have hb0:(W.alloc (.mapIter (some b) clock #[] clock)).heap[b]? =some (.map es clock):=(hg0.block b hbW (by simp)).trans hb';have hJ0:=hJ [] W _ none h0 hg0 (Nat.le_refl _) (λr e=>by cases e);generalize W.alloc (.mapIter (some b) clock #[] clock)=w0 at*;try go_frame
 gi_loopw [3] (λ_ wr=>∃(vs:List MapEntry) (seen:Array Nat) (c0:Nat),wr.heap[W.heap.size]? =some (.mapIter (some b) clock seen c0)/\wr.heap[b]? =some (.map es clock)/\clock<=c0/\Fo es vs seen/\J (vs.map key) wr)
  (λ_ wr=>DL es.size W.heap.size wr)
 case atStart=>
  exact⟨[],#[],clock,hr0,hb0,Nat.le_refl _,⟨by simp,by simp,by simp⟩,hJ0⟩
 case round=>
  obtain⟨vs,seen,c0,hr,hbr,hcc,hC,hJs⟩:=hrel
  gi_wp2_with (first
   |(gi_at_next;refine oM _ rfl _ rfl (Nat.ne_of_gt hbW) rfl hr hbr hborn hcc (Nat.le_refl _) hC ?_ ?_)
   |gi_in)
  ·intro hp
   gi_wp2
   go_end0
   exact⟨⟨_,rfl⟩,vs.map key,hp.map key,hJs⟩
  ·intro e w2 he hC2 hr2 hg2 hd2 hen;have hJ2:J (vs.map key) w2:=hJ _ wr w2 (some W.heap.size) hJs hg2 hd2 (λr e=>by cases e;exact⟨Nat.le_refl _,_,hr,rfl⟩);have hb2:w2.heap[b]? =some (.map es clock):=(hg2.block b (Array.getElem?_eq_some_iff.1 hbr).1 (λe=>by injection e with e;omega)).trans hbr;have hsz:=hC2.size hborn;have hvs:seen.size=vs.length:=by have:=congrArg List.length hC.seen;simpa using this
   obtain⟨fn,tmps,assign,body,hy,hR⟩:=hY (vs.map key) (key e) _ hJ2 (by simp at hsz|-;omega);rw[hkey e (by simpa using he)]at hen|-;unfold qR at hen hy|-
   gi_wp2
   refine hR.mono ?_;rintro e' W3 ⟨rfl,hJ3,hk3⟩
   gi_wp2
   have hr4:=hk3.same _ _ hr2 rfl;have hb4:=hk3.same _ _ hb2 rfl
   go_roundw
   case rel=>exact⟨vs++[e],seen.push e.born,clock,hr4,hb4,Nat.le_refl _,hC2,by simpa using hJ3⟩
   case measure=>rw[tP hr4,tP hr];simp at hsz|-;omega
def PI(b0:Option Nat)(W0:World)(l:List dO)(ss:List dO)(W:World):Prop:=
 ∃v gb,W.heap[W0.heap.size]? =some (.cells #[v] 44 (0,0))/\lU 1 b0 W0.heap.size W v (l.length+ss.length) ((l++ss).flatMap dO.enc) gb/\gb≠some W0.heap.size/\zB b0 W0 W/\uH (l.length*1) b0 W0 W
theorem LJ(b0:Option Nat)(W0:World)(l:List dO)(hb0:∀b,b0=some b->b<W0.heap.size):Ny (W0.heap.size+1) (PI b0 W0 l):=by
 rintro ss W W' row ⟨v,gb,h1,h2,h3,h4,h5⟩ hg hd hr;have hrow:∀{k:Nat} {cur:Array Value} {e:TypeId},W.heap[k]? =some (.cells cur e (0,0))->some k≠row:=λhk e=>by
  obtain⟨_,o,ho,hc⟩:=hr _ e.symm;rw[hk]at ho;cases ho;cases hc
 refine⟨v,gb,(hg.block _ (Array.getElem?_eq_some_iff.1 h1).1 (hrow h1)).trans h1,h2.kept hg ?_,h3,h4.step hg hd (λr e=>.inr (by have:=(hr r e).1;omega)),h5.step hg ?_⟩;rcases h2.lies with⟨rfl,_⟩|⟨g,cap,cur,e,rfl,_,_,hb,_⟩
 ·exact .inl rfl
 ·exact .inr (hrow hb)
 ·cases hb:b0 with
  |none=>exact .inl rfl
  |some g=>exact .inr λe=>by have:=(hr g e.symm).1;have:=hb0 g hb;omega
set_option maxRecDepth 100000 in
theorem DN(W0:World)(v0:Value)(l:List dO)(b0:Option Nat)(hrow:lU 1 b0 W0.heap.size W0 v0 l.length (l.flatMap dO.enc) b0)(hb0:∀b,b0=some b->b<W0.heap.size){Bm ob b clock:Nat}{es:Array MapEntry}(hm:W0.cell? ⟨Bm,ob,none⟩=some (.map (some b)))(hBm:some Bm≠b0)
 (hb:W0.heap[b]? =some (.map es clock))(hbb:some b≠b0)(hborn:eR es clock)(key:MapEntry->dO)(hkey:∀e∈es.toList,e.key=qR (key e))(hN:(l.length+es.size)*16<=140737488355328):
 Calls Tryz.prog 260 #[v0,.func (.func 216) #[] #[.pointer (some ⟨Bm,ob,none⟩)]] W0 λe W'=>
  ∃v ss gb,e=.returned v/\List.Perm ss (es.toList.map key)/\lU 1 b0 W0.heap.size W' v (l.length+ss.length) ((l++ss).flatMap dO.enc) gb/\zB b0 W0 W'/\uH (l.length*1) b0 W0 W':=by
 refine(callsIn_wide (n:=6)).1 ?_;obtain⟨ba,bn,bc,hv0⟩:∃ba bn bc,v0=.slice ba bn bc:=by
  rcases hrow.lies with⟨_,_,a,rfl⟩|⟨g,cap,cur,e,_,rfl,_⟩
  ·exact⟨_,_,_,rfl⟩
  ·exact⟨_,_,_,rfl⟩
 subst hv0;have hBml:Bm<W0.heap.size:=World.block_lt_of_cell? W0 _ hm;have hbl:b<W0.heap.size:=(Array.getElem?_eq_some_iff.1 hb).1;refine callsIn_of_wp_marks Tryz.func260 rfl trivial ?_ rfl;simp only[Tryz.ntmps260,List.size_toArray,List.length_cons,List.length_nil,Nat.reduceAdd,Nat.reduceSub,Array.replicate_succ,Array.replicate_zero,List.push_toArray,List.append_toArray,List.nil_append,List.cons_append]
 gi_wp2
 obtain⟨W1,hW1⟩:∃W1,W0.alloc (.cells #[.slice ba bn bc] 44)=W1:=⟨_,rfl⟩;have hs1:W1.heap.size=W0.heap.size+1:=by rw[<-hW1];simp
 have hg1:W0.grownBy W1 none:=by rw[<-hW1];exact World.grownBy_alloc W0 _ none
 have hd1:W0.drawn<=W1.drawn:=by rw[<-hW1];exact Nat.le_refl _
 have hv1:W1.heap[W0.heap.size]? =some (.cells #[.slice ba bn bc] 44 (0,0)):=by rw[<-hW1];exact heap_alloc_new W0 _
 rw[hW1];clear hW1;refine lT (enc:=qR) (N:=es.size) (S:=λss=>List.Perm ss (es.toList.map key)) rfl (by omega) rfl trivial (enters_of Tryz.func216 (by kernel_rfl) rfl) (PI b0 W0 l) (by rw[hs1];exact LJ b0 W0 l hb0)
  ⟨.slice ba bn bc,b0,hv1,by simpa using hrow.kept hg1 (by cases b0<;>simp),λe=>by have:=hb0 _ e;omega,(zB.refl b0 W0).step hg1 hd1 (λr e=>by cases e),(uH.refl _ b0 W0).step hg1 (by cases b0<;>simp)⟩ ?_
  (λx a' W=>a'=⟨#[.slice ba bn bc,.func (.func 216) #[] #[.pointer (some ⟨Bm,ob,none⟩)],.pointer (some ⟨W0.heap.size,0,none⟩),undef,.slice none 0 0,.string ⟨x.toArray⟩,.func (.func 216) #[] #[.pointer (some ⟨Bm,ob,none⟩)],qR x,undef,undef,undef,undef,undef],[]⟩) ?_ ?_ ?_ ?_
 ·intro l' J W2 hI hsz hJ hY hJ0;obtain⟨v,gb,q1,q2,q3,q4,q6⟩:=hI;exact Cc _ 5 trivial rfl (by omega) W2 ((World.cell?_of_block (q4.block Bm hBml hBm)).trans hm) ((q4.block b hbl hbb).trans hb) hborn key hkey l' J hJ hY hJ0
 ·exact λx a' s W W' row h _ _ _=>h
 ·intro l' pre x W K hI hK;change Code.wpIn (Fence.wide.inRound l') (6-1-1) Tryz.prog _ _ ⟨#[.slice ba bn bc,.func (.func 216) #[] #[.pointer (some ⟨Bm,ob,none⟩)],.pointer (some ⟨W0.heap.size,0,none⟩),undef,.slice none 0 0,undef,.func (.func 216) #[] #[.pointer (some ⟨Bm,ob,none⟩)],qR x,undef,undef,undef,undef,undef],[]⟩ W;have hK':=hK _ W ⟨rfl,rfl,rfl,Nat.le_refl _,λ_ _ _=>rfl⟩ (Nat.le_refl _) rfl;clear hK;unfold qR at hK'|-
  gi_wp2_with gi_round_op_a
  exact hK'
 ·rintro l' pre x a' W ⟨v,gb,q1,q2,q3,q4,q6⟩ rfl hlen;obtain⟨hc1,hf1⟩:=cell_of_box_a q1;obtain⟨inf,d,z,i1,i2,i3,i4,i5,i6,i7⟩:=hT.parts (t:=9) (by simp[TK.isNone]);simp at i4 i5 i7;obtain⟨va,vn,vc,hv⟩:∃va vn vc,v=.slice va vn vc:=by
   rcases q2.lies with⟨_,_,a,rfl⟩|⟨g,cap,cur,e,_,rfl,_⟩
   ·exact⟨_,_,_,rfl⟩
   ·exact⟨_,_,_,rfl⟩
  subst hv;have hWs:W0.heap.size<W.heap.size:=(Array.getElem?_eq_some_iff.1 q1).1;have q5:lU 1 b0 W0.heap.size (W.alloc (.cells #[.string ⟨x.toArray⟩] 9)) (.slice va vn vc) (l.length+pre.length) ((l++pre).flatMap dO.enc) gb:=q2.kept (World.grownBy_alloc W _ none) (by cases gb<;>simp);have hnew:∀(j:Nat) (u:Value),[Value.string ⟨x.toArray⟩][j]? =some u->(W.alloc (.cells #[.string ⟨x.toArray⟩] 9)).cell? ⟨W.heap.size,j,none⟩=some u:=λj u hj=>by
   have:=heap_alloc_new W (.cells #[.string ⟨x.toArray⟩] 9);simp only[World.cell?,this];simpa using hj
  gi_wp2_with (first
   |(gi_at_builtin;refine mC _ rfl _ _ 44 rfl Tryz.underlying44 i1 i6 i4 (by rw[<-Array.length_toList,i7];rfl) (by decide) rfl q5 (by simp;omega) rfl (news:=[.string ⟨x.toArray⟩]) rfl (by simp[Value.oneCell']) hnew (by rw[i5];omega) (by omega) ?_;intro v' W3 g' r1 r2 r3 r4 r5
     have hv3:W3.heap[W0.heap.size]? =some (.cells #[.slice va vn vc] 44 (0,0)):=(r2.block _ (by simp;omega) (λe=>q3 e.symm)).trans ((heap_alloc_old W _ hWs).trans q1);obtain⟨hc3,hf3⟩:=cell_of_box_a hv3;obtain⟨cap',cur',e',rfl,s2,s3,s4,s5,s6,s7⟩:∃cap' cur' e',v'=.slice (some ⟨g',0,none⟩) (l.length+pre.length+1) cap'/\(b0=some g'\/W0.heap.size<=g')/\W3.heap[g']? =some (.cells cur' e' (0,0))/\l.length+pre.length+1<=cap'/\cap'<=maxLen/\cap'*1=cur'.size/\cur'.toList.take ((l.length+pre.length+1)*1)=(l++pre).flatMap dO.enc++[.string ⟨x.toArray⟩]:=by
      rcases r1.lies with⟨h,_⟩|⟨g,cap,cur,e,h,h1,h2,h3,h4,h5,h6,h7⟩
      ·cases h
      ·injection h with h;subst h;exact⟨cap,cur,e,h1,h2,h3,h4,h5,h6,h7⟩
     go_frame)
   |gi_round_op_a)
  have hg0:W.grownBy (W.alloc (.cells #[.string ⟨x.toArray⟩] 9)) none:=World.grownBy_alloc W _ none;have hd0:W.drawn<=(W.alloc (.cells #[.string ⟨x.toArray⟩] 9)).drawn:=Nat.le_refl _;have hgb:∀r,gb=some r->(b0=some r\/W0.heap.size<=r)/\∃cur e,W.heap[r]? =some (.cells cur e (0,0)):=λr e=>by
   rcases q2.lies with⟨h,_⟩|⟨g,cap,cur,e',h,_,h2,h3,_⟩
   ·rw[h]at e;cases e
   ·rw[h]at e;injection e with e;subst e;exact⟨h2,cur,e',h3⟩
  have hgne:g'≠W0.heap.size:=by
   rcases r4 with h|h
   ·exact λe=>q3 (by rw[h,e])
   ·rw[h];simp;omega
  generalize W.alloc (.cells #[.string ⟨x.toArray⟩] 9)=W2 at*;have hg4:W3.grownBy (W3.setCell ⟨W0.heap.size,0,none⟩ (.slice (some ⟨g',0,none⟩) (l.length+pre.length+1) cap')) (some W0.heap.size):=grownBy_setCell0_a _ _ _;refine⟨⟨Nat.le_trans hg0.size (Nat.le_trans r2.size hg4.size),λk o hk ho hcell=>?_⟩,((KeepsWalks.of_grownBy hg0 (λj o e=>by cases e)).trans (KeepsWalks.of_grownBy r2 (λj o e ho=>?_))).trans (KeepsWalks.setCell _ _ _),
   .slice (some ⟨g',0,none⟩) (l.length+pre.length+1) cap',some g',heap_setCell_box_a _ hv3,?_,λe=>hgne (by injection e),((q4.step hg0 hd0 (λr e=>by cases e)).step r2 r3 (λr e=>(hgb r e).1)).step hg4 (Nat.le_refl _) (λr e=>.inr (by injection e with e;omega)),((q6.step hg0 (by cases b0<;>simp)).write (by rw[Nat.add_mul];omega) r2 r5).step hg4 ?_⟩
  ·have h2:=(hg0.block k (Array.getElem?_eq_some_iff.1 ho).1 (by simp)).trans ho;have h3:=(r2.block k (Array.getElem?_eq_some_iff.1 h2).1 (λe=>by
    obtain⟨_,cur,e',h⟩:=hgb k e.symm;rw[ho]at h;cases h;cases hcell)).trans h2
   exact(hg4.block k (Array.getElem?_eq_some_iff.1 h3).1 (λe=>by injection e with e;omega)).trans h3
  ·obtain⟨_,cur,e',h⟩:=hgb j e;have h2:=(hg0.block j (Array.getElem?_eq_some_iff.1 h).1 (by simp)).trans h;rw[ho]at h2;cases h2;rfl
  ·have:=r1.kept hg4 (.inr (λe=>hgne (by injection e)));simpa [dO.enc,qR,Nat.add_assoc]using this
  ·cases hb:b0 with
   |none=>exact .inl rfl
   |some g=>exact .inr λe=>by injection e with e;have:=hb0 g hb;omega
 ·rintro D xs W hD hS ⟨v,gb,q1,q2,q3,q4,q6⟩ hdef;obtain⟨hc1,hf1⟩:=cell_of_box_a q1
  gi_wp2
  refine⟨by simp,.inl ⟨_,_,rfl,run_takeDeferred hdef,?_⟩⟩;refine⟨_,results_tmp rfl _ _ _,v,xs,gb,rfl,hS,q2.kept (grownBy_putObj_a _ _ _) ?_,q4.step (grownBy_putObj_a _ _ _) (Nat.le_refl _) (λr e=>.inr (by injection e with e;omega)),q6.step (grownBy_putObj_a _ _ _) ?_⟩;rcases q2.lies with⟨h,_⟩|⟨g,cap,cur,e',h,_,h2,h3,_⟩
  ·exact .inl h
  ·refine .inr λe=>?_;rw[h]at e;injection e with e;subst e
   rw[hdef]at h3;cases h3
  ·cases hb:b0 with
   |none=>exact .inl rfl
   |some g=>exact .inr λe=>by injection e with e;have:=hb0 g hb;omega
end Go.Eng
namespace Go.Proofs
open Go.Shelf
def Tryz.sortStr_ren:Go.Shelf.Ren:=⟨λ|6=>98|8=>134|9=>173|19=>207|20=>208|21=>249|22=>250|23=>251|24=>252|25=>253|26=>254|27=>255|28=>256|29=>257|36=>309|31=>269|32=>270|37=>310|38=>311|39=>153|41=>338|n=>n,λ|27=>44|29=>9|3=>3|32=>166|26=>44|0=>0|44=>90|46=>93|4=>4|36=>236|35=>235|41=>154|5=>5|9=>9|53=>281|57=>285|63=>297|64=>298|n=>n,λ|n=>n⟩
theorem Tryz.sortStr:Go.Proofs.SlLaysM.n6 Tryz.prog Tryz.sortStr_ren:={
 mixed:=by kernel_rfl,
 f6:=⟨Tryz.f98.name,by decide,Tryz.func98.trans (congrArg some (by kernel_rfl))⟩,
 f8:=Tryz.func134.trans (congrArg some (by kernel_rfl)),
 f9:=⟨Tryz.f173.name,by decide,Tryz.func173.trans (congrArg some (by kernel_rfl))⟩,
 f19:=Tryz.func207.trans (congrArg some (by kernel_rfl)),
 f20:=Tryz.func208.trans (congrArg some (by kernel_rfl)),
 f21:=⟨Tryz.f249.name,by decide,Tryz.func249.trans (congrArg some (by kernel_rfl))⟩,
 f22:=⟨Tryz.f250.name,by decide,Tryz.func250.trans (congrArg some (by kernel_rfl))⟩,
 f23:=⟨Tryz.f251.name,by decide,Tryz.func251.trans (congrArg some (by kernel_rfl))⟩,
 f24:=⟨Tryz.f252.name,by decide,Tryz.func252.trans (congrArg some (by kernel_rfl))⟩,
 f25:=⟨Tryz.f253.name,by decide,Tryz.func253.trans (congrArg some (by kernel_rfl))⟩,
 f26:=⟨Tryz.f254.name,by decide,Tryz.func254.trans (congrArg some (by kernel_rfl))⟩,
 f27:=⟨Tryz.f255.name,by decide,Tryz.func255.trans (congrArg some (by kernel_rfl))⟩,
 f28:=⟨Tryz.f256.name,by decide,Tryz.func256.trans (congrArg some (by kernel_rfl))⟩,
 f29:=⟨Tryz.f257.name,by decide,Tryz.func257.trans (congrArg some (by kernel_rfl))⟩,
 f31:=Tryz.func269.trans (congrArg some (by kernel_rfl)),
 f32:=Tryz.func270.trans (congrArg some (by kernel_rfl)),
 f36:=⟨Tryz.f309.name,by decide,Tryz.func309.trans (congrArg some (by kernel_rfl))⟩,
 f37:=⟨Tryz.f310.name,by decide,Tryz.func310.trans (congrArg some (by kernel_rfl))⟩,
 f38:=⟨Tryz.f311.name,by decide,Tryz.func311.trans (congrArg some (by kernel_rfl))⟩,
 f39:=⟨Tryz.f153.name,by decide,Tryz.func153.trans (congrArg some (by kernel_rfl))⟩,
 f41:=⟨Tryz.f338.name,by decide,Tryz.func338.trans (congrArg some (by kernel_rfl))⟩,
 t0:=Tryz.underlying0,
 a0:=Tryz.isAgg0,
 z0:=Tryz.sizeOf0,
 v0:=Tryz.zeroValue0,
 t3:=Tryz.underlying3,
 a3:=Tryz.isAgg3,
 z3:=Tryz.sizeOf3,
 v3:=Tryz.zeroValue3,
 t4:=Tryz.underlying4,
 a4:=Tryz.isAgg4,
 z4:=Tryz.sizeOf4,
 v4:=Tryz.zeroValue4,
 t5:=Tryz.underlying5,
 a5:=Tryz.isAgg5,
 z5:=Tryz.sizeOf5,
 v5:=Tryz.zeroValue5,
 t9:=Tryz.underlying9,
 a9:=Tryz.isAgg9,
 z9:=Tryz.sizeOf9,
 v9:=Tryz.zeroValue9,
 t26:=Tryz.underlying44,
 a26:=Tryz.isAgg44,
 z26:=Tryz.sizeOf44,
 v26:=Tryz.zeroValue44,
 t27:=Tryz.underlying44,
 a27:=Tryz.isAgg44,
 z27:=Tryz.sizeOf44,
 v27:=Tryz.zeroValue44,
 t29:=Tryz.underlying9,
 a29:=Tryz.isAgg9,
 z29:=Tryz.sizeOf9,
 v29:=Tryz.zeroValue9,
 t32:=Tryz.underlying166,
 a32:=Tryz.isAgg166,
 z32:=Tryz.sizeOf166,
 v32:=Tryz.zeroValue166,
 t35:=Tryz.underlying235,
 a35:=Tryz.isAgg235,
 z35:=Tryz.sizeOf235,
 v35:=Tryz.zeroValue235,
 t36:=Tryz.underlying236,
 a36:=Tryz.isAgg236,
 z36:=Tryz.sizeOf236,
 v36:=Tryz.zeroValue236,
 t41:=Tryz.underlying154,
 a41:=Tryz.isAgg154,
 z41:=Tryz.sizeOf154,
 v41:=Tryz.zeroValue154,
 t44:=Tryz.underlying90,
 a44:=Tryz.isAgg90,
 z44:=Tryz.sizeOf90,
 v44:=Tryz.zeroValue90,
 t46:=Tryz.underlying93,
 a46:=Tryz.isAgg93,
 z46:=Tryz.sizeOf93,
 v46:=Tryz.zeroValue93,
 t53:=Tryz.underlying281,
 a53:=Tryz.isAgg281,
 z53:=Tryz.sizeOf281,
 v53:=Tryz.zeroValue281,
 t57:=Tryz.underlying285,
 a57:=Tryz.isAgg285,
 z57:=Tryz.sizeOf285,
 v57:=Tryz.zeroValue285,
 t63:=Tryz.underlying297,
 a63:=Tryz.isAgg297,
 z63:=Tryz.sizeOf297,
 v63:=Tryz.zeroValue297,
 t64:=Tryz.underlying298,
 a64:=Tryz.isAgg298,
 z64:=Tryz.sizeOf298,
 v64:=Tryz.zeroValue298}
end Go.Proofs
namespace Go.Eng
section
open Go.Proofs Go.Sort Go.Shelf Go.RowKit
attribute[local simp] bA bW aQ aZ
theorem nL:sG 1 DV.str dO.enc where
 pos:=by decide
 len:=λ_=>rfl
 lenD:=λ_=>rfl
 one:=λx v hv=>by simp[dO.enc]at hv;subst hv;rfl
 cell:=λx i c v hc hv w E u=>by
  match i,hc,hv with
  |0,hc,hv=>simp[dO.enc,aK]at hc hv;subst hc;subst hv;exact⟨λh=>by cases h;rfl,λh=>h▸ .str _⟩
theorem OU{w:World}{E:Nat->Prop}{s:dO}{v:Value}(h:RD w E (.str s) v):v=qR s:=by cases h;rfl
def sT(e:MapEntry):dO:=match e.key with
 | .string b=>b.data.toList
 |_=>[]
theorem DO(s:List dO)(ds:List DV)(hN:s.length*16<=140737488355328):
 Ks Tryz.prog 260 [.nl,.d (.fn 216 [.ro [.mp (s.map .str) ds]])] []
  (λfin ret=>∃p:List dO,p.Perm s/\fin=[(0,.dead),(1,.row false 1 (p.map .str))]/\ret=.ow 1 0 p.length):=by
 refine⟨⟨_,Tryz.func260,by kernel_rfl,by rfl⟩,λw X β vs m0 hvl hr=>?_⟩
 match vs,hvl with
 |[v0,v1],_=>
 have r0:=hr 0 _ _ rfl rfl;have r1:=hr 1 _ _ rfl rfl;obtain⟨a0,rfl⟩:∃a,v0=.slice a 0 0:=by cases r0 with|nl a=>exact⟨a,rfl⟩
 obtain⟨Bm,ob,b,clock,arr,rfl,hcell,hblk,hk,hborn,hkey⟩:∃Bm ob b clock arr,v1=.func (.func 216) #[] #[.pointer (some ⟨Bm,ob,none⟩)]/\w.cell? ⟨Bm,ob,none⟩=some (.map (some b))/\w.heap[b]? =some (.map arr clock)/\
  (s.map DV.str).length=arr.size/\eR arr clock/\∀(i:Nat) (d:DV) (e:MapEntry),(s.map DV.str)[i]? =some d->arr[i]? =some e->RD w (Ex X β (aL [])) d e.key:=by
  cases r1 with
  |d _ _ h=>cases h with
   |fn _ _ us hl hc=>
    match us,hl with
    |[u],_=>
    have h0:=hc 0 _ u rfl rfl;cases h0 with
    |ro _ Bm ob us2 hBm hul _ _ hcell h=>
     match us2,hul with
     |[u2],_=>
     have h2:=h 0 _ u2 rfl rfl;have hc2:=hcell 0 u2 rfl;cases h2 with
     |mp _ _ b clock arr hb _ hblk hk _ hborn hkey _=>exact⟨Bm,ob,b,clock,arr,rfl,by simpa using hc2,hblk,hk,hborn,hkey⟩
 rw[List.length_map]at hk;have hkeys:∀(i:Nat) (h1:i<s.length) (h2:i<arr.size),arr[i].key=qR s[i]:=λi h1 h2=>OU (hkey i _ _ (by simp[h1]) (Array.getElem?_eq_getElem h2));have hk2:∀e∈arr.toList,e.key=qR (sT e):=λe he=>by
  obtain⟨i,hi,rfl⟩:=List.getElem_of_mem he;have hi':i<arr.size:=by simpa using hi
  have:=hkeys i (by omega) hi';simp only[Array.getElem_toList];simp[sT,this,qR]
 have hmap:arr.toList.map sT=s:=by
  apply List.ext_getElem (by simpa using hk.symm);intro i h1 h2;have:=hkeys i h2 (by omega);simp[sT,this,qR]
 obtain⟨m,_⟩:=nA m0 (d:=0) (by simp[aL,gP]) (s:=1) (by decide);refine(DN w (.slice a0 0 0) [] none ⟨rfl,by simp,.inl ⟨rfl,rfl,a0,rfl⟩⟩ (λg hg=>by cases hg) hcell (by simp) hblk (by simp) hborn sT hk2 (by rw[<-hk];simpa using hN)).mono ?_;rintro e w' ⟨v,ss,gb,rfl,hp,hr',hst,hhd⟩;rw[hmap]at hp;obtain⟨β',hm,hR⟩:=m.appended nL (id:=0) (new:=1) (l:=[]) (by rw[aM];rfl) (by rw[bS _ _ (by decide)];simp[aL,gP]) (.inl ⟨rfl,rfl⟩) hr' hst hhd;have hfin:aL [(0,.dead),(1,.row false 1 (ss.map .str))]=bU (bU (bU (aL []) 0 (.row false 1 [])) 0 .dead) 1 (.row false 1 (ss.map .str)):=by
  funext j;simp only[aL,gP,bU];by_cases h0:j=0<;>by_cases h1:j=1<;>simp_all
 exact⟨v,β',_,_,⟨ss,hp,rfl,rfl⟩,rfl,by rw[hfin];simpa using hm,by rw[hfin];simpa using hR⟩
theorem Hs(s:List dO)(ds:List DV)(hN:s.length*16<=140737488355328):MX Tryz.prog 180 [.fn 216 [.ro [.mp (s.map .str) ds]]] (λr=>(λv=>∃p:List dO,p.Perm s/\v=.own 1 (p.map .str)) r.v/\r.fresh=true):=by
 refine MX.ret (Rel:=λv=>∃p:List dO,p.Perm s/\v=.own 1 (p.map .str)) Tryz.func180 (by kernel_rfl) (c:=_) rfl Tryz.ntmps180 (by simp) Tryz.results180 λw0 X hp=>?_;refine aA ?_;simp;refine aB ?_;refine zA hT hW 4 [] [(1,4)] [1] (λfin ret=>∃p:List dO,p.Perm s/\fin=[(0,.dead),(1,.row false 1 (p.map .str))]/\ret=.ow 1 0 p.length) _ _ ⟨s,List.Perm.refl _,rfl,rfl⟩ (λ|99=>none|_=>none) (by intro d;first|exact⟨rfl,λ_ h=>h⟩|(split<;>exact⟨rfl,λ_ h=>h⟩)) (by kernel_rfl) λr1 hr1=>?_;obtain⟨fin1,ret1⟩:=r1;obtain⟨p,hp1,rfl,rfl⟩:=hr1;simp;refine⟨DO s ds hN,?_⟩;refine aN ?_;simp only[eA];refine⟨_,⟨p,hp1,rfl⟩,by simp,?_⟩;simp
def pJ(l:List dO):List dO:=l.mergeSort λx y=>decide (x<=y)
theorem tQ(l:List dO):(pJ l).length=l.length:=List.length_mergeSort _
theorem DP{cur:Array Value}{s:List dO}(h:s.length<=cur.size):putCells encStr 0 s.toArray cur=(aQ 0 cur.toList (s.flatMap dO.enc)).toArray:=by
 have hsf:(s.flatMap dO.enc).length=s.length:=by have:=nL.flat_len s;simpa using this
 apply Array.ext_getElem?;intro i;rw[show(aQ 0 cur.toList (s.flatMap dO.enc)).toArray[i]? =(aQ 0 cur.toList (s.flatMap dO.enc))[i]? from by simp,eT (by rw[Nat.zero_add,hsf];simpa using h)];simp only[putCells,Array.getElem?_mapIdx,Nat.not_lt_zero,if_false,Nat.zero_add,List.size_toArray,hsf,Nat.sub_zero,Nat.zero_le,true_and];by_cases hi:i<s.length
 ·have hic:i<cur.size:=by omega
  have hm:s.flatMap dO.enc=s.map qR:=by
   clear h hsf hi;induction s with
   |nil=>rfl
   |cons x t ih=>simp[dO.enc,ih]
  simp only[hi,if_true,Array.getElem?_eq_getElem hic,Option.map_some];rw[hm];simp[hi,getElem!_def,encStr,qR]
 ·simp only[hi,if_false];rw[Array.getElem?_toList];cases cur[i]? <;>rfl
theorem Ht(l:List dO)(hl:l.length<=8000000000000):BO Tryz.prog 98 [.ow 0 0 l.length] [(0,.row false 1 (l.map .str))] [(0,.row false 1 ((pJ l).map .str))] (.tup []):=by
 refine⟨⟨_,Tryz.func98,by kernel_rfl,by rfl⟩,λw X β vs m hvl hr=>?_⟩;have hH:aL [(0,aV.row false 1 (l.map DV.str))] 0=.row false 1 (l.map .str):=by simp[aL,gP]
 have hfin:∀o,aL [(0,o)]=bU (aL [(0,aV.row false 1 (l.map DV.str))]) 0 o:=λo=>by
  funext j;simp only[aL,gP,bU];split<;>rfl
 generalize hHd:aL [(0,aV.row false 1 (l.map DV.str))]=H at*
 match vs,hvl with
 |[v0],_=>
 have r0:=hr 0 _ _ rfl rfl;rcases lQ m hH r0 with⟨b,c,cur,e,rfl,hb,hkn,hn,hc,hblk,hroom,hcap⟩|⟨p,rfl,hz,_⟩
 ·have hob:=m.obj 0;simp only[cP,hH]at hob;obtain⟨hpos,hall,hob⟩:=hob;rcases hob with⟨hnone,_⟩|⟨b',e',cur',hb',hblk2,hlen',hpo⟩
  ·rw[hnone]at hb;cases hb
  rw[hb]at hb';injection hb' with hb';subst hb'
  rw[hblk]at hblk2;injection hblk2 with hblk2;injection hblk2 with p1 p2;subst p1;subst p2
  rw[List.length_map]at hlen';have htk:=nL.holds hlen' (λi c v hc hv=>(hpo i c v hc hv).2);have hfl:(l.flatMap dO.enc).length=l.length:=by have:=nL.flat_len l;simpa using this
  have hmap:∀l:List dO,l.flatMap dO.enc=l.map qR:=λl=>by
   induction l with
   |nil=>rfl
   |cons x t ih=>simp[dO.enc,ih]
  have hlb:=(Array.getElem?_eq_some_iff.1 hblk).1;have hhold:Holds encStr w b 0 l.toArray:=by
   intro j hj;simp only[List.size_toArray]at hj;have hjc:j<cur.size:=by omega
   refine⟨?_,by simp[World.frozen?,hblk]⟩;rw[cell_of_row w b _ cur e (0,0) hblk,Nat.zero_add,Array.getElem?_eq_getElem hjc];have h1:(cur.toList.take (l.length*1))[j]? =some cur[j]:=by rw[List.getElem?_take,if_pos (by omega)];simp[hjc]
   rw[htk,hmap]at h1;simp[hj]at h1;rw[<-h1];simp[encStr,qR,hj]
  have hcon:=AnyM.slices_Sort_string Tryz.sortStr b 0 c l w hhold hlb (by omega);rw[show #[Value.slice (some ⟨b,0,none⟩) l.length c]=[Value.slice (some ⟨b,0*1,none⟩) l.length c].toArray from rfl]at hcon;refine hcon.mono ?_;rintro ee w' ⟨rfl,n,os,rfl⟩;have hsl:=tQ l;change ∃v β',_/\cV _ X _ β' (grow (putRow encStr (Sort.ahead w n) b 0 (pJ l).toArray) os)/\R (grow (putRow encStr (Sort.ahead w n) b 0 (pJ l).toArray) os) _ _ _ _ v;generalize pJ l=s at*;have hsf:(s.flatMap dO.enc).length=s.length:=by have:=nL.flat_len s;simpa using this
  have hput:(putRow encStr (Sort.ahead w n) b 0 s.toArray).heap[b]? =some (.cells (aQ 0 cur.toList (s.flatMap dO.enc)).toArray e (0,0)):=by
   rw[<-DP (by omega)];unfold putRow mapBlock;simp only[heap_ahead,Array.getElem?_modify,if_pos,hblk,Option.map_some];rfl
  have hother:∀j,j≠b->(putRow encStr (Sort.ahead w n) b 0 s.toArray).heap[j]? =w.heap[j]? :=λj hj=>by
   unfold putRow mapBlock;simp only[heap_ahead,Array.getElem?_modify,Ne.symm hj,if_false]
  have hsize:(putRow encStr (Sort.ahead w n) b 0 s.toArray).heap.size=w.heap.size:=by simp
  have hcl:cur.toList.length=cur.size:=by simp
  have hpl:(aQ 0 cur.toList (s.flatMap dO.enc)).toArray.size=cur.size:=by rw[List.size_toArray,dI (by rw[Nat.zero_add,hsf,hcl];omega)];exact hcl
  have hstk:(aQ 0 cur.toList (s.flatMap dO.enc)).toArray.toList.take (s.length*1)=s.flatMap dO.enc:=by
   unfold aQ;simp[hsf]
  obtain⟨m1,g1⟩:=m.rewriteG (id:=0) (b:=b) (o':=.row false 1 (s.map .str)) (w':=putRow encStr (Sort.ahead w n) b 0 s.toArray) (by rw[hH];rfl) hb rfl rfl rfl (Nat.le_add_right _ _) hsize hother (by
   unfold bL;rw[hH,aM];refine .inr ⟨⟨false,s.map .str,rfl,by simp[hsl]⟩,rfl,λb' c' t hbb hblk'=>?_⟩;rw[hb]at hbb;injection hbb with hbb;subst hbb
   rw[hblk]at hblk';injection hblk' with hblk';injection hblk' with q1 q2;subst q1;subst q2
   exact⟨_,e,hput,hpl⟩) (λ_ _=>by
   unfold cP;rw[aM];obtain⟨z1,z2⟩:=nL.reads hstk;exact⟨hpos,nL.all s,.inr ⟨b,e,_,hb,hput,by simpa using z1,z2 _ _⟩⟩)
  obtain⟨m2,g2⟩:=m1.grow (w':=grow (putRow encStr (Sort.ahead w n) b 0 s.toArray) os) ⟨rfl,rfl,rfl,by simp,λj hj=>heap_grow_old _ _ hj,Nat.le_refl _⟩;refine⟨_,β,rfl,?_,.tup [] [] rfl (by simp)⟩;rw[hfin];exact m2
 ·have hl0:l=[]:=List.eq_nil_of_length_eq_zero hz;subst hl0;refine(AnyM.slices_Sort_string_none Tryz.sortStr p 0 w).mono ?_;rintro e w' ⟨rfl,rfl⟩;refine⟨_,β,rfl,?_,.tup [] [] rfl (by simp)⟩;rw[hfin,show pJ []=[] from by simp[pJ],qA hH];exact m
theorem qS(l:List dO):(pJ l).Pairwise λx y=>x<=y:=by
 have:=List.pairwise_mergeSort (le:=λx y:dO=>decide (x<=y)) (λa b c h1 h2=>by simp at*;exact List.le_trans h1 h2) (λa b=>by simp;exact List.le_total a b) l;exact this.imp λh=>by simpa using h
theorem Hu{p s:List dO}(h:p.Perm s):pJ p=pJ s:=
 List.Perm.eq_of_pairwise (le:=λx y:dO=>x<=y) (λa b _ _ h1 h2=>List.le_antisymm h1 h2) (qS p) (qS s) (((List.mergeSort_perm p _).trans h).trans (List.mergeSort_perm s _).symm)
theorem JG(s:List dO)(ds:List DV)(hN:s.length<=1100000):Ok Tryz.prog 102 [.fn 216 [.ro [.mp (s.map .str) ds]]] ⟨.own 1 ((pJ s).map .str),true⟩:=by
 refine bE Tryz.func102 rfl Tryz.ntmps102 Tryz.results102 λw0 X hp=>?_;refine aA ?_;simp;refine aB ?_;refine qK hT hW 5 (λr=>(∃p:List dO,p.Perm s/\r.v=.own 1 (p.map .str))/\r.fresh=true) true ⟨.own 1 (s.map .str),true⟩ ⟨⟨⟨s,List.Perm.refl _,rfl⟩,rfl⟩,rfl⟩ (λ|99=>none|_=>none) (by intro d;first|exact⟨rfl,λ_ h=>h⟩|(split<;>exact⟨rfl,λ_ h=>h⟩)) (by kernel_rfl) λr1 hr1=>?_;obtain⟨v1,f1⟩:=r1;obtain⟨⟨p,hp1,hv⟩,hf⟩:=hr1;dsimp only at hv hf;subst hv;subst hf;have hpl:=hp1.length_eq;simp;refine⟨Hs s ds (by omega),?_⟩;refine aS hT hW (λ|7=>some (.gen ⟨[(5,0)],[],[],[(0,.row false 1 ((pJ p).map .str))],.tup []⟩)|_=>none) ?_;simp;refine⟨by simpa using Ht p (by omega),?_⟩;refine aA ?_;simp;refine aN ?_;rw[<-Hu hp1];simp[tQ];rw[List.take_of_length_le (by simp[tQ])]
theorem Hv(ks vs:List DV):Ok Tryz.prog 144 [.mp ks vs] ⟨.d (.fn 216 [.ro [.mp ks vs]]),false⟩:=by
 refine bE Tryz.func144 rfl Tryz.ntmps144 Tryz.results144 λw0 X hp=>?_;refine aA ?_;simp;refine aA ?_;simp;refine aN ?_;simp
end
theorem jN:∀{a b:dO},fX a b=true↔a<b
 |[],[]=>by simp[fX,Op.bytesLess]
 |[],_::_=>by simp[fX,Op.bytesLess]
 |_::_,[]=>by simp[fX,Op.bytesLess]
 |a::x,b::y=>by
  have ih:=jN (a:=x) (b:=y);unfold fX at*;simp only[Op.bytesLess,List.cons_lt_cons_iff];by_cases h1:a<b
  ·simp[h1]
  ·by_cases h2:b<a
   ·have hne:a≠b:=λe=>by subst e;exact h1 h2
    simp[h1,h2,hne]
   ·have e:a=b:=by
     have h1':¬a.toNat<b.toNat:=h1;have h2':¬b.toNat<a.toNat:=h2;exact UInt8.toNat_inj.1 (by omega)
    subst e;simp[h1,ih]
theorem xZ:Pm fX:=by
 refine⟨λa=>?_,λa b c h1 h2=>?_,λa b h1 h2=>?_⟩
 ·cases q:fX a a with
  |false=>rfl
  |true=>exact absurd (jN.1 q) (List.lt_irrefl a)
 ·exact jN.2 (List.lt_trans (jN.1 h1) (jN.1 h2))
 ·have h1':¬a<b:=λh=>by rw[jN.2 h]at h1;cases h1
  have h2':¬b<a:=λh=>by rw[jN.2 h]at h2;cases h2
  exact List.le_antisymm (List.not_lt.1 h2') (List.not_lt.1 h1')
def nM(m:List Df)(d:Df):List Df:=match m.findIdx? (λx=>decide (d.name=x.name))with|some j=>m.set j d|none=>m++[d]
def lI(m:List Df)(s:dO):List Df:=match m.findIdx? (λx=>decide (s=x.name))with|some j=>m.eraseIdx j|none=>m
def zH(m:List Df)(s:dO):Df:=match m.findIdx? (λx=>decide (s=x.name))with|some j=>m.getD j default|none=>⟨[],[]⟩
def Br(a b:Df):Bool:=fX a.name b.name
structure LK(m L:List Df):Prop where
 nd:(m.map Df.name).Nodup
 ri:kY Br L
 mem:∀d,d∈m↔d∈L
theorem LK.nil:LK [] []:=⟨by simp,by simp[kY],by simp⟩
theorem DQ{L:List Df}(h:kY Br L):(L.map Df.name).Nodup:=by
 rw[List.Nodup,List.pairwise_map];exact h.imp λ{a b} hab e=>by unfold Br at hab;rw[e,xZ.irrefl]at hab;cases hab
theorem LL{m:List Df}(h:(m.map Df.name).Nodup){a b:Df}(ha:a∈m)(hb:b∈m)(e:a.name=b.name):a=b:=by
 obtain⟨i,hi,rfl⟩:=List.getElem_of_mem ha;obtain⟨j,hj,rfl⟩:=List.getElem_of_mem hb;rw[List.Nodup,List.pairwise_map,List.pairwise_iff_getElem]at h;rcases Nat.lt_trichotomy i j with hij|hij|hij
 ·exact absurd e (h i j hi hj hij)
 ·subst hij;rfl
 ·exact absurd e.symm (h j i hj hi hij)
theorem nN{m:List Df}{s:dO}(h:m.findIdx? (λx=>decide (s=x.name))=none):∀x∈m,x.name≠s:=λx hx e=>by
 have:=List.findIdx?_eq_none_iff.1 h x hx;simp at this;exact this e.symm
theorem hF{m:List Df}{s:dO}{j:Nat}(h:m.findIdx? (λx=>decide (s=x.name))=some j):∃hj:j<m.length,m[j].name=s:=by
 obtain⟨hj,h1,_⟩:=List.findIdx?_eq_some_iff_getElem.1 h;exact⟨hj,(of_decide_eq_true h1).symm⟩
theorem wO{m:List Df}{d:Df}(h:(m.map Df.name).Nodup):((nM m d).map Df.name).Nodup/\∀x,x∈nM m d↔x=d\/(x∈m/\x.name≠d.name):=by
 unfold nM;cases q:m.findIdx? (λx=>decide (d.name=x.name))with
 |none=>
  have hn:=nN q;refine⟨?_,λx=>?_⟩
  ·rw[List.map_append,List.nodup_append];refine⟨h,by simp,λa ha b hb e=>?_⟩;simp at hb;subst hb;subst e;obtain⟨x,hx,hxe⟩:=List.mem_map.1 ha;exact hn x hx hxe
  ·rw[List.mem_append,List.mem_singleton];constructor
   ·rintro(hx|rfl)
    ·exact .inr ⟨hx,hn x hx⟩
    ·exact .inl rfl
   ·rintro(rfl|⟨hx,_⟩)
    ·exact .inr rfl
    ·exact .inl hx
 |some j=>
  obtain⟨hj,hjn⟩:=hF q;simp only;have hset:(m.set j d).map Df.name=m.map Df.name:=by
   rw[List.map_set];apply List.ext_getElem?;intro i;rw[List.getElem?_set];by_cases e:j=i
   ·subst e;simp[hj,hjn]
   ·simp[e]
  refine⟨by rw[hset];exact h,λx=>?_⟩;constructor
  ·intro hx;obtain⟨i,hi,rfl⟩:=List.getElem_of_mem hx;simp at hi;rw[List.getElem_set];by_cases e:j=i
   ·simp[e]
   ·simp only[e,if_false];refine .inr ⟨List.getElem_mem hi,λen=>e ?_⟩;rw[List.Nodup,List.pairwise_map,List.pairwise_iff_getElem]at h;rcases Nat.lt_trichotomy i j with hij|hij|hij
    ·exact absurd (en.trans hjn.symm) (h i j hi hj hij)
    ·exact hij.symm
    ·exact absurd (hjn.trans en.symm) (h j i hj hi hij)
  ·rintro(rfl|⟨hx,hne⟩)
   ·exact List.mem_iff_getElem.2 ⟨j,by simpa using hj,by simp⟩
   ·obtain⟨i,hi,rfl⟩:=List.getElem_of_mem hx;have e:j≠i:=λe=>by subst e;exact hne hjn
    exact List.mem_iff_getElem.2 ⟨i,by simpa using hi,by rw[List.getElem_set];simp[e]⟩
theorem uM{m:List Df}{s:dO}(h:(m.map Df.name).Nodup):((lI m s).map Df.name).Nodup/\∀x,x∈lI m s↔x∈m/\x.name≠s:=by
 unfold lI;cases q:m.findIdx? (λx=>decide (s=x.name))with
 |none=>exact⟨h,λx=>⟨λhx=>⟨hx,nN q x hx⟩,λhx=>hx.1⟩⟩
 |some j=>
  obtain⟨hj,hjn⟩:=hF q;simp only;refine⟨h.sublist ((List.eraseIdx_sublist m j).map Df.name),λx=>?_⟩;rw[List.mem_eraseIdx_iff_getElem];constructor
  ·rintro⟨i,hi,hij,rfl⟩;refine⟨List.getElem_mem hi,λen=>?_⟩;rw[List.Nodup,List.pairwise_map,List.pairwise_iff_getElem]at h;rcases Nat.lt_trichotomy i j with hlt|he|hlt
   ·exact h i j hi hj hlt (en.trans hjn.symm)
   ·exact hij he
   ·exact h j i hj hi hlt (hjn.trans en.symm)
  ·rintro⟨hx,hne⟩;obtain⟨i,hi,rfl⟩:=List.getElem_of_mem hx;exact⟨i,hi,λe=>by subst e;exact hne hjn,rfl⟩
theorem Fu{α:Type}{lt:α->α->Bool}(tr:∀a b c,lt a b=true->lt b c=true->lt a c=true){out:List α}{x:α}(h:kY lt out)(ht:∀y∈out,lt x y=false->lt y x=true):kY lt (nE (nW (λy=>lt x y) out out.length) x out):=by
 obtain⟨h1,h2⟩:=xR (p:=λy=>lt x y) (out:=out) out.length (Nat.le_refl _);have hle:=DB (p:=λy=>lt x y) (out:=out) out.length;generalize nW (λy=>lt x y) out out.length=k at*;have hout:=List.pairwise_iff_getElem.1 h;have below:∀i (hi:i<out.length),i<k->lt out[i] x=true:=by
  intro i hi hik;have hk1:k-1<out.length:=by omega
  have hlast:lt out[k-1] x=true:=ht _ (List.getElem_mem hk1) (h2 (k-1) hk1 (by omega));by_cases e:i=k-1
  ·subst e;exact hlast
  ·exact tr _ _ _ (hout i (k-1) hi hk1 (by omega)) hlast
 unfold nE;refine List.pairwise_append.2 ⟨h.sublist (List.take_sublist _ _),List.pairwise_cons.2 ⟨λy hy=>?_,h.sublist (List.drop_sublist _ _)⟩,λy hy z hz=>?_⟩
 ·obtain⟨i,hi,rfl⟩:=List.getElem_of_mem hy;simp at hi;simp only[List.getElem_drop];exact h1 (k+i) (by omega) (by omega) (by omega)
 ·obtain⟨i,hi,rfl⟩:=List.getElem_of_mem hy;simp at hi;simp only[List.getElem_take];rcases List.mem_cons.1 hz with rfl|hz
  ·exact below i (by omega) (by omega)
  ·obtain⟨j,hj,rfl⟩:=List.getElem_of_mem hz;simp at hj;simp only[List.getElem_drop];exact hout i (k+j) (by omega) (by omega) (by omega)
theorem yA{L:List Df}{s:dO}{x:Df}:x∈wE L s↔x∈L/\x.name≠s:=by simp[wE]
theorem LK.drop{m L:List Df}(h:LK m L)(s:dO):LK (lI m s) (wE L s):=
 ⟨(uM h.nd).1,h.ri.sublist List.filter_sublist,λd=>by rw[(uM h.nd).2,yA,h.mem]⟩
theorem LK.put{m L:List Df}(h:LK m L)(d:Df):LK (nM m d) (Ha L d):=by
 refine⟨(wO h.nd).1,?_,λx=>?_⟩
 ·refine Fu (lt:=Br) (λa b c h1 h2=>xZ.trans _ _ _ h1 h2) (h.ri.sublist List.filter_sublist) λy hy hf=>?_;have hne:=(yA.1 hy).2;unfold Br at*;cases q:fX y.name d.name with
  |true=>rfl
  |false=>exact absurd (xZ.total _ _ q hf) hne
 ·rw[(wO h.nd).2];unfold Ha;rw[CF,yA,h.mem]
theorem LK.has{m L:List Df}(h:LK m L)(s:dO):(m.any λx=>decide (x.name=s))=(L.any λx=>decide (x.name=s)):=by
 rw[Bool.eq_iff_iff,List.any_eq_true,List.any_eq_true];constructor
 ·rintro⟨x,hx,e⟩;exact⟨x,(h.mem x).1 hx,e⟩
 ·rintro⟨x,hx,e⟩;exact⟨x,(h.mem x).2 hx,e⟩
theorem JH{m:List Df}(h:(m.map Df.name).Nodup){d:Df}(hd:d∈m):zH m d.name=d:=by
 unfold zH;cases q:m.findIdx? (λx=>decide (d.name=x.name))with
 |none=>exact absurd rfl (nN q d hd)
 |some j=>
  obtain⟨hj,hjn⟩:=hF q;simp only[List.getD_eq_getElem?_getD,List.getElem?_eq_getElem hj,Option.getD_some];exact LL h (List.getElem_mem hj) hd hjn
theorem LK.out{m L:List Df}(h:LK m L){ns:List dO}(hp:ns.Perm (m.map Df.name))(hs:ns.Pairwise λx y=>x<=y):ns.map (zH m)=L:=by
 have hL:ns=L.map Df.name:=by
  refine List.Perm.eq_of_pairwise (le:=λx y:dO=>x<=y) (λa b _ _ h1 h2=>List.le_antisymm h1 h2) hs ?_ (hp.trans ?_)
  ·rw[List.pairwise_map];exact h.ri.imp λ{a b} hab=>List.le_of_lt (jN.1 hab)
  ·refine(List.perm_ext_iff_of_nodup h.nd (DQ h.ri)).2 λs=>?_;simp only[List.mem_map];constructor
   ·rintro⟨x,hx,e⟩;exact⟨x,(h.mem x).1 hx,e⟩
   ·rintro⟨x,hx,e⟩;exact⟨x,(h.mem x).2 hx,e⟩
 rw[hL,List.map_map]
 conv=>rhs;rw[<-List.map_id L]
 apply List.map_congr_left;intro d hd;exact JH h.nd ((h.mem d).2 hd)
section
attribute[local simp] bA bW aQ aZ
def km(m:List Df):List DV:=m.map λd=>.str d.name
def vm(m:List Df):List DV:=m.map Df.d
theorem tR{s:dO}:∀{m:List Df} {i:Nat},iK (.str s) (km m) i=some ((m.findIdx? λx=>decide (s=x.name)).map (·+i))
 |[],i=>by simp[iK,km]
 |x::m,i=>by
  have ih:=tR (s:=s) (m:=m) (i:=i+1);simp only[km,List.map_cons,iK]at*;have e:mX (.str s) (.str x.name)=some (decide (s=x.name)):=by simp only[mX,Ga];congr 1;rw[Bool.eq_iff_iff];simp
  rw[e,List.findIdx?_cons];cases q:decide (s=x.name)with
  |true=>simp
  |false=>
   simp only[ih,Bool.false_eq_true,if_false];cases(m.findIdx? λx=>decide (s=x.name))with
   |none=>rfl
   |some j=>simp;omega
theorem LM{m:List Df}{s:dO}:(m.any λx=>decide (x.name=s))=(m.findIdx? λx=>decide (s=x.name)).isSome:=by
 rw[Bool.eq_iff_iff,List.any_eq_true,List.findIdx?_isSome,List.any_eq_true];constructor
 ·rintro⟨x,hx,e⟩;exact⟨x,hx,by simpa using(of_decide_eq_true e).symm⟩
 ·rintro⟨x,hx,e⟩;exact⟨x,hx,by simpa using(of_decide_eq_true e).symm⟩
theorem In(m:List Df){H:dU}{x:LV}{s:dO}{ok:Bool}(h:uD H x=some (km m,vm m)):
 dZ T H 194 x (.d (.str s)) ok=⟨if ok then .tup [.d (zH m s).d,.d (.bool (m.any λx=>decide (x.name=s)))]else .d (zH m s).d,True,[]⟩:=by
 unfold dZ zH;simp only[OK,h,tR,LM];cases q:m.findIdx? λx=>decide (s=x.name)with
 |none=>cases ok<;>simp[kQ,eE,dH,pU,TK.isNone,TK.agg,Df.d]
 |some j=>
  obtain⟨hj,_⟩:=hF q;cases ok<;>simp[kQ,eE,vm,hj]
theorem LN(m:List Df){H:dU}{id:Nat}{d:Df}(h:H id=.map false (km m) (vm m)):
 cH T H 194 (.mp id) (.d (.str d.name)) (.d (.agg [.str d.name,.str d.text]))=⟨.junk,True,[(id,.map false (km (nM m d)) (vm (nM m d)))]⟩:=by
 unfold cH nM;simp only[OK,h,tR];cases q:m.findIdx? λx=>decide (d.name=x.name)with
 |none=>simp[kQ,eE,km,vm,Df.d]
 |some j=>
  obtain⟨hj,hjn⟩:=hF q;have hk:km m=km (m.set j d):=by
   unfold km;apply List.ext_getElem?;intro i;rw[List.map_set,List.getElem?_set];by_cases e:j=i
   ·subst e;simp[hj,hjn]
   ·simp[e]
  simp[kQ,eE,<-hk];simp[vm,List.map_set,Df.d]
theorem OV(m:List Df){H:dU}{id:Nat}{s:dO}(h:H id=.map false (km m) (vm m)):
 fZ T H 194 (.mp id) (.d (.str s))=⟨.junk,True,[(id,.map false (km (lI m s)) (vm (lI m s)))]⟩:=by
 unfold fZ lI;simp only[OK,h,tR];cases q:m.findIdx? λx=>decide (s=x.name)with
 |none=>simp[kQ,eE]
 |some j=>simp[kQ,eE,km,vm,xS]
def zI:List Df->List Df->Option (List Df)
 |L,[]=>some L
 |L,d::r=>if L.any (λx=>decide (x.name=d.name))=true then none else zI (Ha L d) r
def LO(defs:List Df)(e:Ed):List Df:=e.drops.foldl wE (e.puts.foldl Ha defs)
def nO(l:List Ed)(set names:List Nm):Bool:=(List.range names.length).any λi=>(names.take i).any λa=>vA l set a (names.getD i default)
def eV(base:List Df)(l:List Ed)(set:List Nm):List Df×Int:=
 if(cT l).2≠0 then([],(cT l).2)else match zI [] base with
  |none=>([],7)
  |some defs=>if eJ l set=false then([],10)else if nO l set (lA l set)=true then([],14)else((lA l set).foldl (λds n=>LO ds (BZ l n)) defs,0)
def Ac(l:List Ed)(set names:List Nm)(j:Nat):Prop:=∀i',i'<j->((names.take i').any λa=>vA l set a (names.getD i' default))=false
theorem Ac.step{l:List Ed}{set names:List Nm}{j:Nat}(h:Ac l set names j)(hj:j<names.length)(hp:AY (λa=>vA l set a names[j]) names j):Ac l set names (j+1):=λi' hi=>by
 by_cases e:i'=j
 ·subst e;rw[List.any_eq_false];intro a ha;obtain⟨q,hq,rfl⟩:=List.getElem_of_mem ha;simp at hq;have:=hp q (by omega) (by omega);simp only[List.getElem_take,List.getD_eq_getElem?_getD,List.getElem?_eq_getElem hj,Option.getD_some];simpa using this
 ·exact h i' (by omega)
theorem Fv{l:List Ed}{set names:List Nm}(h:Ac l set names names.length):nO l set names=false:=by
 unfold nO;rw[List.any_eq_false];intro i hi;rw[h i (by simpa using hi)];simp
theorem DR{l:List Ed}{set names:List Nm}{j k:Nat}(hj:j<names.length)(hk:k<j)(h:vA l set (names[k]'(by omega)) names[j]=true):nO l set names=true:=by
 unfold nO;refine List.any_eq_true.2 ⟨j,by simpa using hj,List.any_eq_true.2 ⟨names[k]'(by omega),?_,?_⟩⟩
 ·exact List.mem_iff_getElem.2 ⟨k,by simp;omega,by simp⟩
 ·simpa [hj]using h
theorem Hw{e:Ed}(h:dA e=true):e.puts.length+e.drops.length<=24:=by
 unfold dA at h;simp only[Bool.and_eq_true,decide_eq_true_eq]at h;have:=h.1.1.1.1.1.1.2;unfold aP at this;simpa using this
theorem Bs(m:List Df)(d:Df):(nM m d).length<=m.length+1:=by
 unfold nM;split<;>simp
theorem Fw(m:List Df)(s:dO):(lI m s).length<=m.length:=by
 unfold lI;split
 ·exact(List.eraseIdx_sublist _ _).length_le
 ·exact Nat.le_refl _
theorem LP(m:List Df):km m=(m.map Df.name).map .str:=by simp[km]
theorem Bt{l:List Ed}:∀(f:Nat) (rest out:List Nm) {x:Nm},x∈lZ l f rest out->x∈rest\/x∈out
 |0,rest,out,x,h=>.inr h
 |f+1,rest,out,x,h=>by
  cases q:rest.findIdx? (kZ l out)with
  |none=>simp only[lZ,q]at h;exact .inr h
  |some k=>
   have hk:=(List.findIdx?_eq_some_iff_getElem.1 q).1;rw[sO q hk]at h;rcases Bt f _ _ h with h|h
   ·exact .inl (List.mem_of_mem_eraseIdx h)
   ·rcases List.mem_append.1 h with h|h
    ·exact .inr h
    ·simp at h;subst h;exact .inl (List.getElem_mem hk)
theorem Hx{l:List Ed}{set names:List Nm}{x:Nm}(h:x∈names)(e:names=lA l set):x∈set:=by
 subst e;rcases Bt _ _ _ h with h|h
 ·exact((dC set).2 x).1 h
 ·cases h
theorem Bu{l:List Ed}:∀(f:Nat) (rest out:List Nm),(lZ l f rest out).length<=out.length+f
 |0,rest,out=>Nat.le_refl _
 |f+1,rest,out=>by
  cases q:rest.findIdx? (kZ l out)with
  |none=>simp only[lZ,q];omega
  |some k=>
   have hk:=(List.findIdx?_eq_some_iff_getElem.1 q).1;rw[sO q hk];have:=Bu (l:=l) f (rest.eraseIdx k) (out++[rest[k]]);simp at this;omega
theorem Hy(l:List Ed)(set:List Nm):(lA l set).length<=set.length:=by
 have:=Bu (l:=l) (aY set).length (aY set) [];have:=fP set;unfold lA;simp at*;omega
theorem sU(base:List Df)(l:List Ed)(set:List Nm)(hs:iL l)(hb:base.length<=1000)(hl:set.length<=1000):Ok Tryz.prog 75 [jA base,bT l,bY set] ⟨.tup [.d (jA (eV base l set).1),.d (aT (eV base l set).2)],true⟩:=by
 refine AV Tryz.func75 (by kernel_rfl) (c:=_) rfl Tryz.ntmps75 (by simp) Tryz.results75 rfl λw0 X hp=>?_;refine aA ?_;simp;refine aB ?_;refine aS hT hW (λ|32=>some<| .plain ⟨.tup [.d (aT (cT l).1),.d (aT (cT l).2)],true⟩|_=>none) ?_;simp[cO];refine⟨tM l hs,?_⟩;refine aA ?_;simp;refine aD ?_;simp;refine⟨λh2=>?_,λh2=>?_⟩
 ·refine aA ?_;simp;refine aN ?_;have e:eV base l set=([],(cT l).2):=by unfold eV;rw[if_pos h2]
  simp[e]
 ·have hv0:(cT l).2=0:=by simpa using h2
  refine aH ?_;simp;refine aA ?_;simp;refine aB ?_;refine aA ?_;simp;refine aF ?_;refine aJ (ι:=Nat×List Df×List Df) (λ⟨i,m,L⟩=>aU [(0,.d (jA base)),(1,.d (bT l)),(2,.d (bY set)),(10,.mp 10),(39,.d (jA base)),(40,.d (aT base.length)),(41,.d (aT i))]) (λ⟨i,m,L⟩=>aL [(10,.map false (km m) (vm m))]) (λ⟨i,m,L⟩=>i<=base.length/\m.length<=i/\LK m L/\zI [] base=zI L (base.drop i)) (λ⟨i,m,L⟩=>base.length-i) (0,[],[]) (aC hp [0,1,2,10,39,40,41] [(38,10)] (hH:=by simp[km,vm])) (⟨Nat.zero_le _,Nat.le_refl _,LK.nil,rfl⟩) λ⟨i,m,L⟩ hi6=>?_;refine aA ?_;simp;refine aB ?_;refine aD ?_;simp;refine⟨λh6=>?_,λh6=>?_⟩
  ·refine aH ?_;simp;refine aB ?_;refine aF ?_;refine aA ?_;simp[h6];refine aB ?_;refine aA ?_;simp[In m,cO];refine aA ?_;simp;refine aD ?_;simp;refine⟨λx9 hx9 he9=>?_,λh9=>?_⟩
   ·refine aA ?_;simp;refine aN ?_;obtain⟨q1,q2,q3,q4⟩:=hi6;have ht:(L.any λx=>decide (x.name=base[i].name))=true:=by
     rw[<-q3.has];exact List.any_eq_true.2 ⟨x9,hx9,by simpa using he9⟩
    have hbn:zI [] base=none:=by
     rw[q4,List.drop_eq_getElem_cons h6];simp[zI,ht]
    have e:eV base l set=([],7):=by unfold eV;rw[if_neg (by simpa using hv0),hbn]
    simp[e]
   ·refine aH ?_;simp;refine aG ?_;simp[LN m];refine aG ?_;simp;refine⟨by omega,?_⟩;refine aI (i+1,nM m base[i],Ha L base[i]) (aC hp [0,1,2,10,39,40,41] [(10,10)]) ?_ ?_
    ·obtain⟨q1,q2,q3,q4⟩:=hi6;refine⟨h6,Nat.le_trans (Bs m base[i]) (by omega),q3.put _,?_⟩;rw[q4,List.drop_eq_getElem_cons h6];have hf:(L.any λx=>decide (x.name=base[i].name))=false:=by
      rw[<-q3.has,List.any_eq_false];intro x hx;simpa using h9 x hx
     simp[zI,hf]
    ·omega
  ·refine aO ?_;simp;refine aB ?_;refine aB ?_;obtain⟨q1,q2,q3,q4⟩:=hi6;have hbs:zI [] base=some L:=by rw[q4,List.drop_eq_nil_of_le (by omega)];rfl
   refine eG.ro hT hW (λ|60=>some<| .plain ⟨.d (.bool (eJ l set)),true⟩|_=>none) ?_;simp;refine⟨qO l set,?_⟩;refine aD ?_;simp;refine⟨λh13=>?_,λh13=>?_⟩
   ·refine aA ?_;simp;refine aN ?_;have e:eV base l set=([],10):=by unfold eV;rw[if_neg (by simpa using hv0),hbs];simp[h13]
    simp[e]
   ·refine aH ?_;simp;refine aB ?_;have hcl:eJ l set=true:=by simpa using h13
    obtain⟨names,hnames⟩:∃names,names=lA l set:=⟨_,rfl⟩;have hnl:names.length<=1000:=by rw[hnames];exact Nat.le_trans (Hy l set) hl
    have hfound:∀n∈names,0<=bM l n:=λn hn=>(sQ.1 hcl n (Hx hn (by rw[<-hnames]))).1;refine eG.ro hT hW (λ|64=>some<| .plain ⟨.own 2 (names.map Nm.d),true⟩|_=>none) ?_;simp;refine⟨by rw[hnames];exact Fi l set (by omega) (Bl hv0) hcl,?_⟩;refine aB ?_;refine aA ?_;simp;refine aF ?_;refine aJ (ι:=Nat) (λj=>aU [(0,.d (jA base)),(1,.d (bT l)),(2,.d (bY set)),(10,.mp 10),(15,.ow 15 0 names.length),(65,.ow 15 0 names.length),(66,.d (aT names.length)),(67,.d (aT j))]) (λj=>aL [(10,.map false (km m) (vm m)),(15,.row false 2 (names.map Nm.d))]) (λj=>j<=names.length/\Ac l set names j) (λj=>names.length-j) 0 (aC hp [0,1,2,10,15,65,66,67] [(10,10),(64,15)]) (⟨Nat.zero_le _,λ_ h=>absurd h (Nat.not_lt_zero _)⟩) λj hi17=>?_;refine aA ?_;simp;refine aB ?_;refine aD ?_;simp;refine⟨λh17=>?_,λh17=>?_⟩
    ·refine aH ?_;simp;refine aB ?_;refine aF ?_;refine aA ?_;simp[h17];refine aA ?_;simp;refine⟨by omega,?_⟩;refine aF ?_;refine aJ (ι:=Nat) (λk=>aU [(0,.d (jA base)),(1,.d (bT l)),(2,.d (bY set)),(10,.mp 10),(15,.ow 15 0 names.length),(17,.bx 17 0),(65,.ow 15 0 names.length),(66,.d (aT names.length)),(67,.d (aT j)),(74,.ow 15 0 j),(75,.d (aT j)),(76,.d (aT k))]) (λk=>aL [(10,.map false (km m) (vm m)),(15,.row false 2 (names.map Nm.d)),(17,.box false [.d (aT names[j].who),.d (aT names[j].seq)])]) (λk=>k<=j/\AY (λa=>vA l set a names[j]) names k) (λk=>j-k) 0 (aC hp [0,1,2,10,15,17,65,66,67,74,75,76] [(10,10),(15,15),(17,17)]) (⟨Nat.zero_le _,AY.zero⟩) λk hi20=>?_;refine aA ?_;simp;refine aB ?_;refine aD ?_;simp;refine⟨λh20=>?_,λh20=>?_⟩
     ·refine aH ?_;simp;refine aB ?_;refine aF ?_;refine aB ?_;have hkn:k<names.length:=by omega
      refine aG ?_;simp[h20,hkn];refine aS hT hW (λ|84=>some<| .plain ⟨.d (.bool (vA l set names[k] names[j])),true⟩|_=>none) ?_;simp;refine⟨JD l set _ _ hs (λc hc=>(sQ.1 hcl c hc).1) (hfound _ (List.getElem_mem hkn)) (hfound _ (List.getElem_mem h17)),?_⟩;refine aD ?_;simp;refine⟨λh22=>?_,λh22=>?_⟩
      ·refine aA ?_;simp;refine aN ?_;have hc:nO l set (lA l set)=true:=by rw[<-hnames];exact DR h17 (by omega) h22
       have e:eV base l set=([],14):=by unfold eV;rw[if_neg (by simpa using hv0),hbs];simp[hcl,hc]
       simp[e]
      ·refine aH ?_;simp;refine aG ?_;simp;refine⟨by omega,?_⟩;refine aI (k+1) (aC hp [0,1,2,10,15,17,65,66,67,74,75,76] [(10,10),(15,15),(17,17)]) ?_ ?_
       ·exact⟨h20,hi20.2.succ (by omega) (by simpa using h22)⟩
       ·omega
     ·refine aO ?_;simp;refine aG ?_;simp;refine⟨by omega,?_⟩;refine aI (j+1) (aC hp [0,1,2,10,15,65,66,67] [(10,10),(15,15)]) ?_ ?_
      ·exact⟨h17,hi17.2.step h17 (λq hq hqj=>hi20.2 q hq (by omega))⟩
      ·omega
    ·refine aO ?_;simp;refine aB ?_;refine aA ?_;simp;refine aF ?_;refine aJ (ι:=Nat×List Df×List Df) (λ⟨q,m2,L2⟩=>aU [(0,.d (jA base)),(1,.d (bT l)),(10,.mp 10),(87,.ow 15 0 names.length),(88,.d (aT names.length)),(89,.d (aT q))]) (λ⟨q,m2,L2⟩=>aL [(10,.map false (km m2) (vm m2)),(15,.row false 2 (names.map Nm.d))]) (λ⟨q,m2,L2⟩=>q<=names.length/\m2.length<=base.length+q*24/\LK m2 L2/\L2=(names.take q).foldl (λds n=>LO ds (BZ l n)) L) (λ⟨q,m2,L2⟩=>names.length-q) (0,m,L) (aC hp [0,1,10,87,88,89] [(10,10),(15,15)]) (⟨Nat.zero_le _,by omega,q3,by simp⟩) λ⟨q,m2,L2⟩ hi27=>?_;refine aA ?_;simp;refine aB ?_;refine aD ?_;simp;refine⟨λh27=>?_,λh27=>?_⟩
     ·refine aH ?_;simp;refine aB ?_;refine aF ?_;refine aA ?_;simp[h27];refine aB ?_;obtain⟨i0,hi0,hfe,hee⟩:=tO (hfound names[q] (List.getElem_mem h27));have hpl:=Hw (CG ((tN hv0).2 i0 hi0)).1;refine eG.ro hT hW (λ|96=>some<| .plain ⟨.d (aT (bM l names[q])),true⟩|_=>none) ?_;simp[hfe,hi0];refine⟨by rw[<-hfe];exact jX l names[q],?_⟩;refine aB ?_;refine aA ?_;simp;refine aF ?_;refine aJ (ι:=Nat×List Df×List Df) (λ⟨j,m3,L3⟩=>aU [(0,.d (jA base)),(1,.d (bT l)),(10,.mp 10),(22,.bx 22 0),(87,.ow 15 0 names.length),(88,.d (aT names.length)),(89,.d (aT q)),(100,.d (jA l[i0].puts)),(101,.d (aT l[i0].puts.length)),(102,.d (aT j))]) (λ⟨j,m3,L3⟩=>aL [(10,.map false (km m3) (vm m3)),(15,.row false 2 (names.map Nm.d)),(22,.box false ((aK l[i0].d).map .d))]) (λ⟨j,m3,L3⟩=>j<=l[i0].puts.length/\m3.length<=m2.length+j/\LK m3 L3/\L3=(l[i0].puts.take j).foldl Ha L2) (λ⟨j,m3,L3⟩=>l[i0].puts.length-j) (0,m2,L2) (aC hp [0,1,10,22,87,88,89,100,101,102] [(10,10),(15,15),(22,22)]) (⟨Nat.zero_le _,Nat.le_refl _,hi27.2.2.1,by simp⟩) λ⟨j,m3,L3⟩ hi31=>?_;refine aA ?_;simp;refine aB ?_;refine aD ?_;simp;refine⟨λh31=>?_,λh31=>?_⟩
      ·refine aH ?_;simp;refine aB ?_;refine aF ?_;refine aA ?_;simp[h31];refine aG ?_;simp[LN m3];refine aG ?_;simp;refine⟨by omega,?_⟩;refine aI (j+1,nM m3 l[i0].puts[j],Ha L3 l[i0].puts[j]) (aC hp [0,1,10,22,87,88,89,100,101,102] [(10,10),(15,15),(22,22)]) ?_ ?_
       ·refine⟨h31,?_,hi31.2.2.1.put _,?_⟩
        ·have z1:=hi31.2.1;have z2:=Bs m3 l[i0].puts[j];dsimp only;omega
        ·rw[List.take_succ_eq_append_getElem h31,List.foldl_append,<-hi31.2.2.2];simp
       ·omega
      ·refine aO ?_;simp;refine aA ?_;simp;refine aF ?_;refine aJ (ι:=Nat×List Df×List Df) (λ⟨j',m4,L4⟩=>aU [(0,.d (jA base)),(1,.d (bT l)),(10,.mp 10),(87,.ow 15 0 names.length),(88,.d (aT names.length)),(89,.d (aT q)),(112,.d (cQ l[i0].drops)),(113,.d (aT l[i0].drops.length)),(114,.d (aT j'))]) (λ⟨j',m4,L4⟩=>aL [(10,.map false (km m4) (vm m4)),(15,.row false 2 (names.map Nm.d))]) (λ⟨j',m4,L4⟩=>j'<=l[i0].drops.length/\m4.length<=m3.length/\LK m4 L4/\L4=(l[i0].drops.take j').foldl wE L3) (λ⟨j',m4,L4⟩=>l[i0].drops.length-j') (0,m3,L3) (aC hp [0,1,10,87,88,89,112,113,114] [(10,10),(15,15)]) (⟨Nat.zero_le _,Nat.le_refl _,hi31.2.2.1,by simp⟩) λ⟨j',m4,L4⟩ hi36=>?_;refine aA ?_;simp;refine aB ?_;refine aD ?_;simp;refine⟨λh36=>?_,λh36=>?_⟩
       ·refine aH ?_;simp;refine aB ?_;refine aF ?_;refine aA ?_;simp[h36];refine aG ?_;simp[OV m4];refine aG ?_;simp;refine⟨by omega,?_⟩;refine aI (j'+1,lI m4 l[i0].drops[j'],wE L4 l[i0].drops[j']) (aC hp [0,1,10,87,88,89,112,113,114] [(10,10),(15,15)]) ?_ ?_
        ·refine⟨h36,?_,hi36.2.2.1.drop _,?_⟩
         ·have z1:=hi36.2.1;have z2:=Fw m4 l[i0].drops[j'];dsimp only;omega
         ·rw[List.take_succ_eq_append_getElem h36,List.foldl_append,<-hi36.2.2.2];simp
        ·omega
       ·refine aO ?_;simp;refine aG ?_;simp;refine⟨by omega,?_⟩;refine aI (q+1,m4,L4) (aC hp [0,1,10,87,88,89] [(10,10),(15,15)]) ?_ ?_
        ·refine⟨h27,?_,hi36.2.2.1,?_⟩
         ·have z1:=hi36.2.1;have z2:=hi31.2.1;have z3:=hi27.2.1;have z4:=hi31.1;dsimp only;omega
         ·rw[List.take_succ_eq_append_getElem h27,List.foldl_append,<-hi27.2.2.2,hi36.2.2.2,hi31.2.2.2,List.take_of_length_le (by omega),List.take_of_length_le (by omega)];simp[LO,hee]
        ·omega
     ·refine aO ?_;simp;refine aA ?_;simp;refine aB ?_;refine aB ?_;obtain⟨ns,hns⟩:∃ns,ns=pJ (m2.map Df.name):=⟨_,rfl⟩;have hqn:q=names.length:=by have:=hi27.1;omega
      have hm2:m2.length<=100000:=by have z1:=hi27.2.1;have z2:q*24<=1000*24:=Nat.mul_le_mul_right _ (by omega);omega
      have hnsl:ns.length=m2.length:=by rw[hns,tQ];simp
      refine eG.ro hT hW (λ|123=>some<| .plain ⟨.d (.fn 216 [.ro [.mp (km m2) (vm m2)]]),false⟩|124=>some<| .plain ⟨.own 1 (ns.map .str),true⟩|_=>none) ?_;simp;refine⟨⟨Hv _ _,by rw[hns,LP];exact JG (m2.map Df.name) (vm m2) (by simp;omega)⟩,?_⟩;refine aF ?_;refine aJ (ι:=Nat×List Df) (λ⟨t,out⟩=>aU [(10,.mp 10),(27,.ow 27 0 out.length),(124,.ow 124 0 ns.length),(125,.d (aT ns.length)),(126,.d (aT t))]) (λ⟨t,out⟩=>aL [(10,.map true (km m2) (vm m2)),(27,.row false 2 (out.map Df.d)),(124,.row false 1 (ns.map .str))]) (λ⟨t,out⟩=>t<=ns.length/\out.length=t/\out=(ns.map (zH m2)).take t) (λ⟨t,out⟩=>ns.length-t) (0,[]) (aC hp [10,27,124,125,126] [(10,10),(27,27),(124,124)]) (by simp) λ⟨t,out⟩ hi43=>?_;refine aA ?_;simp;refine aB ?_;refine aD ?_;simp;refine⟨λh43=>?_,λh43=>?_⟩
      ·refine aH ?_;simp;refine aB ?_;refine aF ?_;refine aA ?_;simp[h43];refine aG ?_;simp[In m2];have z1:=hi43.2.1;refine⟨by omega,?_⟩;refine aG ?_;simp;refine⟨by omega,?_⟩;refine aI (t+1,out++[zH m2 ns[t]]) (aC hp [10,27,124,125,126] [(10,10),(135,27),(124,124)]) ?_ ?_
       ·refine⟨h43,by simp[hi43.2.1],?_⟩;dsimp only;rw[gL h43,<-hi43.2.2]
       ·omega
      ·refine aO ?_;simp;refine aA ?_;simp;refine aN ?_;have ho:out=L2:=by
        rw[hi43.2.2,List.take_of_length_le (by simp;omega),hns];exact hi27.2.2.1.out (List.mergeSort_perm _ _) (qS _)
       have hnc:nO l set (lA l set)=false:=by rw[<-hnames];exact Fv (by have:=hi17.1;rw[show names.length=j by omega];exact hi17.2)
       have e:eV base l set=(out,0):=by
        unfold eV;rw[if_neg (by simpa using hv0),hbs];simp only[hcl,hnc,Bool.true_eq_false,Bool.false_eq_true,if_false];rw[ho,hi27.2.2.2,hqn,List.take_length,<-hnames]
       simp[e]
end
end Go.Eng
