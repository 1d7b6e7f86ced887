/- Part 7 of the proof. No condition. -/
import Derived.Test.YtepoffhhiddlkaaGreatDoorMF
import Derived.Shelf.Strconv.Atoi
import Derived.Test.YtepoffhhiddlkaaGreatDoorProg
open Go.Proofs
open Go.Proofs.Tryz
set_option linter.unusedVariables false
set_option linter.unusedSimpArgs false
set_option maxRecDepth 20000
set_option maxHeartbeats 4000000
open List renaming getElem?_eq_getElem→A0,drop_eq_getElem_cons→A1,length_nil→A2,length_drop→A3,length_cons→A4,drop_eq_nil_of_le→A6,getD_eq_getElem?_getD→A7,length_append→B0,length_singleton→B1,drop_drop→B4,getElem?_map→B7,length_take→B9,length_pos_iff→C1,mem_cons_self→C2,findIdx?_cons→C3,getElem_mem→C5,take→C6,find?_cons→C7,range→C8,length→D1,drop→D2
open Nat renaming lt_succ_self→A5,not_lt_zero→A9,le_refl→B2,eq_zero_or_pos→B5,zero_le→B6,le_succ_of_le→C4
open Int renaming add_assoc→C9
open Option renaming getD_some→B8
open Bool renaming and_eq_true→C0
open Classical renaming byContradiction→A8
open UInt8 renaming toNat_inj→B3,ofNat→D0
namespace Go.Eng
section
attribute[local simp] aR bJ bF aO aL aX aP
attribute[local simp] kH.cond Nd.d_eq nd_t nd_dr nd_td ndsD aQ
theorem Vn{k:Nat}(h:k<11):(([40,41,123,125,61,43,45,42,60,59,46]:bC)[k]?.getD 0)∈signs:=by
 have e:([40,41,123,125,61,43,45,42,60,59,46]:bC)=signs:=rfl;rw[e,A0 h,B8];exact C5 h
theorem aAb{a b:UInt8}:((a.toNat:Int)=(b.toNat:Int))↔a=b:=by
 rw[<-B3];omega
theorem JY(c:UInt8):Ok prog 110 [.int .u8 (c.toNat:Int)] ⟨.d (.bool (decide (c∈signs))),true⟩:=by
 refine bT func110 rfl ntmps110 results110 λk X g=>?_;apply aD;simp;apply aD;simp;apply eP;simp;apply aW;refine aZ (ι:=Nat) (λi=>bA [(0,.d (.int .u8 (c.toNat:Int))),(3,.d (.str [40,41,123,125,61,43,45,42,60,59,46])),(4,.d (aI i))]) (λi=>aK []) (λi=>i<=11/\c∉signs.take i) (λi=>11-i) 0 (aA g [0,3,4] []) (⟨B6 _,bB⟩) λi a=>?_;apply aF;apply bE;simp;refine⟨λh=>?_,λh=>?_⟩
 .apply aG;simp;apply eG;apply aF;have d:i<11:=aE;have j:i<signs.length:=d;apply aJ;simp;refine⟨aE,?_⟩;apply aM;simp;refine⟨λb=>?_,λb=>?_⟩
  .apply aD;simp;apply aH;simp;have e:=Vn d;rw[aAb.1 b]at e;exact e
  .apply aG;simp;apply aJ;simp;refine⟨aE,?_⟩;refine On.mk (i+1) (aA g [0,3,4] []) ?_ ?_
   .refine⟨aE,?_⟩;have f:i<signs.length:=d;rw[<-List.take_append_getElem f];simp only[List.mem_append,List.mem_singleton,not_or];refine⟨a.2,λe=>b ?_⟩;rw[e];rw[show([40,41,123,125,61,43,45,42,60,59,46]:bC)=signs from rfl,A0 f];rfl
   .omega
 .apply bP;simp;apply aD;simp;apply aH;simp;have e:=a.2;rw[List.take_of_length_le (by show 11<=i;omega)]at e;exact e
theorem Yl:valS []=0:=rfl
attribute[local simp] Yl
def tA(s:bC)(i:Nat):Int:=if 0<nextN (s.drop i)then(i:Int)+nextN (s.drop i)else -1
theorem u61{c:UInt8}:((c.toNat:Int)=61)↔c=61:=by
 rw[<-B3];have:(61:UInt8).toNat=61:=rfl;omega
theorem u60{c:UInt8}:((c.toNat:Int)=60)↔c=60:=by
 rw[<-B3];have:(60:UInt8).toNat=60:=rfl;omega
theorem Vo{p:UInt8->Bool}{s:bC}{i k:Nat}(h:∀m,m<k->firstIs p (s.drop (i+m))=true)(a:firstIs p (s.drop (i+k))=false):runP p (s.drop i)=k:=
 BS (λm b=>by rw[B4];exact h m b) (by rw[B4];exact a)
theorem Ig{s:bC}{i:Nat}{c:UInt8}(f:i<s.length)(d:s.drop i=c::s.drop (i+1))(e:s[i]?.getD 0=c):
 ((s.drop i).take 2=[60,61]\/(s.drop i).take 2=[61,61])↔((i:Int)+1<s.length/\((s[i+1]?.getD 0).toNat:Int)=61/\(((s[i]?.getD 0).toNat:Int)=60\/((s[i]?.getD 0).toNat:Int)=61)):=by
 rw[e,d,oI,oI,u60,u61,u61];by_cases h:i+1<s.length
 .rw[A1 h,A0 h];simp only[List.take_succ_cons,List.take_zero,List.cons.injEq,and_true,B8];constructor
  .rintro(⟨a,b⟩|⟨a,b⟩)
   .exact⟨aE,b,.inl a⟩
   .exact⟨aE,b,.inr a⟩
  .rintro⟨_,b,a|a⟩
   .exact .inl ⟨a,b⟩
   .exact .inr ⟨a,b⟩
 .rw[A6 aE];simp;omega
theorem Vp(s:bC)(i:Nat)(p:i<s.length)(H:s.length<=1000000000):Ok prog 183 [.str s,aI i] ⟨.d (aI (tA s i)),true⟩:=by
 refine bT func183 rfl ntmps183 results183 λJ X v=>?_;have d:=A1 p;have o:s[i]?.getD 0=s[i]:=by rw[A0 p];rfl
 generalize s[i]=c at d o;have f:=mI c (s.drop (i+1));rw[<-d]at f;apply aD;simp;apply fE;have a:=uB s i aE;rw[d]at a;refine bG (og 8 (.plain ⟨.d (.bool (letterB c)),true⟩)) ?_;simp;refine⟨a,?_⟩;apply aM;simp;refine⟨λa=>?_,λa=>?_⟩
 .apply aF;have E:=JX s i aE aE;refine bG (og 11 (.plain ⟨.d (aI (CC s i)),true⟩)) ?_;simp;refine⟨E,?_⟩;apply aH;simp;have e:nextN (s.drop i)=wordN (s.drop i):=by rw[f,if_pos a]
  unfold CC tA;rw[e]
 .apply aG;simp;apply eP;simp[o];refine⟨aE,?_⟩;apply aM;simp;refine⟨λl=>?_,λl=>?_⟩
  .apply aF;have F:=JX s (i+1) aE aE;refine bG (og 19 (.plain ⟨.d (aI (CC s (i+1))),true⟩)) ?_;simp;refine⟨⟨aE,by simpa using F⟩,?_⟩;apply aH;simp;have e:nextN (s.drop i)=if 0<wordN (s.drop (i+1))then wordN (s.drop (i+1))+1 else 0:=by rw[f,if_neg (by simp[a]),if_pos (RN.1 l)]
   unfold CC tA;rw[e];by_cases z:0<wordN (s.drop (i+1))
   .rw[if_pos z,if_pos z,if_pos aE];omega
   .rw[if_neg z,if_neg z,if_neg aE]
  .apply aG;simp;apply fE;have x:=yO s i aE;rw[d]at x;refine bG (og 22 (.plain ⟨.d (.bool (digitB c)),true⟩)) ?_;simp;refine⟨x,?_⟩;apply aM;simp;refine⟨λn=>?_,λn=>?_⟩
   .apply aD;simp;apply eG;refine aZ (ι:=Nat) (λk=>bA [(0,.d (.str s)),(1,.d (aI i)),(5,.d (aI ((i+k:Nat):Int)))]) (λk=>aK []) (λk=>i+k<=s.length/\∀m,m<k->firstIs digitB (s.drop (i+m))=true) (λk=>s.length-i-k) 0 (aA v [0,1,5] []) (⟨aE,λm h=>absurd h (A9 m)⟩) λk r=>?_;apply fE;have G:=yO s (i+k) aE;refine bG (og 26 (.plain ⟨.d (.bool (firstIs digitB (s.drop (i+k)))),true⟩)) ?_;simp[-Int.natCast_add];refine⟨G,?_⟩;apply aM;simp;refine⟨λb=>?_,λb=>?_⟩
    .apply aG;simp;apply aW;apply aJ;simp;refine⟨aE,?_⟩;refine On.mk (k+1) (aA v [0,1,5] [] (by simp[C9])) ?_ ?_
     .have t:i+k<s.length:=A8 λq=>by rw[A6 aE]at b;cases b
      refine⟨aE,λm I=>?_⟩;by_cases e:m=k
      .rw[e];exact b
      .exact r.2 m aE
     .have t:i+k<s.length:=A8 λq=>by rw[A6 aE]at b;cases b
      omega
    .apply bP;simp;apply fE;have w:=Vo r.2 b;apply aJ;simp;refine⟨aE,?_⟩;apply aM;simp;refine⟨λD=>?_,λD=>?_⟩
     .apply aD;simp;apply aH;simp;have e:nextN (s.drop i)=0:=by rw[f,if_neg (by simp[a]),if_neg (λe=>l (RN.2 e)),if_pos n,w,if_neg aE]
      unfold tA;rw[e,if_neg aE]
     .apply aG;simp;apply aD;simp;apply aH;simp;have C:0<k:=by
       rcases B5 k with z|z
       .rw[z,Nat.add_zero,d]at b;exact absurd n (by rw[show digitB c=false from b];simp)
       .exact z
      have e:nextN (s.drop i)=k:=by rw[f,if_neg (by simp[a]),if_neg (λe=>l (RN.2 e)),if_pos n,w,if_pos aE]
      unfold tA;rw[e,if_pos C]
   .apply aG;simp;apply eP;simp;refine⟨⟨⟨⟨aE,λ_=>aE⟩,λ_=>aE⟩,aE⟩,?_⟩;apply aM;simp;refine⟨λy A B=>?_,λg=>?_⟩
    .apply aD;simp;refine⟨aE,?_⟩;apply aH;simp;have e:nextN (s.drop i)=2:=by rw[f,if_neg (by simp[a]),if_neg (λe=>l (RN.2 e)),if_neg (by simp[n]),if_pos ((Ig p d o).2 ⟨y,A,B⟩)]
     unfold tA;rw[e,if_pos bK];rfl
    .apply aG;simp;apply fE;have u:=JY c;refine bG (og 63 (.plain ⟨.d (.bool (decide (c∈signs))),true⟩)) ?_;simp[o];refine⟨⟨aE,u⟩,?_⟩;apply aM;simp;refine⟨λj=>?_,λj=>?_⟩
     .apply aD;simp;refine⟨aE,?_⟩;apply aH;simp;have e:nextN (s.drop i)=1:=by rw[f,if_neg (by simp[a]),if_neg (λe=>l (RN.2 e)),if_neg (by simp[n]),if_neg (λz=>by have z:=(Ig p d o).1 z;exact z.2.2.elim (g z.1 z.2.1).1 (g z.1 z.2.1).2),if_pos j]
      unfold tA;rw[e,if_pos bK];rfl
     .apply aG;simp;apply aD;simp;apply aH;simp;have e:nextN (s.drop i)=0:=by rw[f,if_neg (by simp[a]),if_neg (λe=>l (RN.2 e)),if_neg (by simp[n]),if_neg (λz=>by have z:=(Ig p d o).1 z;exact z.2.2.elim (g z.1 z.2.1).1 (g z.1 z.2.1).2),if_neg j]
      unfold tA;rw[e,if_neg bK]
end
section
attribute[local simp] aR bJ bF aO aL aX aP
attribute[local simp] kH.cond Nd.d_eq nd_t nd_dr nd_td ndsD aQ
theorem uC:∀(f:Nat) (s:bC) (i:Int),s.length<=f->scanF f s i=scanF s.length s i
 |0,s,i,h=>by
  have:s=[]:=List.eq_nil_of_length_eq_zero aE;subst this;rfl
 |f+1,[],i,_=>by simp[scanF]
 |f+1,c::r,i,h=>by
  have a:=uC f r (i+1) (by simpa using h);simp only[A4,scanF];by_cases q:c=32\/c=10
  .rw[if_pos q,if_pos q,a]
  .rw[if_neg q,if_neg q];by_cases z:nextN (c::r)=0
   .rw[if_pos z,if_pos z]
   .rw[if_neg z,if_neg z];have e:((c::r).drop (nextN (c::r))).length<=r.length:=by rw[A3,A4];omega
    have g:r.length<=f:=by simpa using h
    have b:=uC f ((c::r).drop (nextN (c::r))) (i+nextN (c::r)) aE;have d:=uC r.length ((c::r).drop (nextN (c::r))) (i+nextN (c::r)) e;rw[b,d]
termination_by f _ _ _=>f
def oJ(s:bC)(k:Nat):List Tk×Int:=scanF (s.drop k).length (s.drop k) k
theorem GI{s:bC}{k:Nat}(h:s.length<=k):oJ s k=([],(k:Int)):=by
 unfold oJ;rw[A6 h];rfl
theorem CD{s:bC}{k:Nat}(h:k<s.length)(a:s[k]=32\/s[k]=10):oJ s k=oJ s (k+1):=by
 unfold oJ;rw[A1 h,A4,scanF,if_pos a];rfl
theorem EH{s:bC}{k:Nat}(h:k<s.length)(b:¬(s[k]=32\/s[k]=10))(a:nextN (s.drop k)=0):oJ s k=([],(k:Int)):=by
 unfold oJ;rw[A1 h]at a|-;rw[A4,scanF,if_neg b,if_pos a]
theorem GJ{s:bC}{k:Nat}(h:k<s.length)(d:¬(s[k]=32\/s[k]=10))(c:nextN (s.drop k)≠0):
 oJ s k=(⟨(s.drop k).take (nextN (s.drop k)),k⟩::(oJ s (k+nextN (s.drop k))).1,(oJ s (k+nextN (s.drop k))).2):=by
 have b:=wA (s.drop k);have e:(s.drop k).drop (nextN (s.drop k))=s.drop (k+nextN (s.drop k)):=by rw[B4]
 unfold oJ;rw[<-e];generalize a:nextN (s.drop k)=m at c b e|-;rw[A1 h]at a b|-;rw[A4,scanF,if_neg d,if_neg (by rw[a];exact c),a];rw[uC _ _ _ (by rw[A3,A4];omega)]
 push_cast
 rfl
theorem Zq{c:UInt8}{n:Nat}(a:n<256):((c.toNat:Int)=n)↔c=D0 n:=by
 rw[<-B3];have:(D0 n).toNat=n:=by simp[UInt8.toNat_ofNat'];omega
 omega
theorem yP{s:bC}{k:Nat}(d:k<s.length):(((s[k]?.getD 0).toNat:Int)=32\/((s[k]?.getD 0).toNat:Int)=10)↔(s[k]=32\/s[k]=10):=by
 rw[A0 d,B8];have a:=Zq (c:=s[k]) (n:=32) bK;have b:=Zq (c:=s[k]) (n:=10) bK;exact⟨λq=>q.imp a.1 b.1,λq=>q.imp a.2 b.2⟩
theorem PO(s:bC)(k n:Nat):D2 k (C6 ((k:Int)+(n:Int)).toNat s)=C6 n (D2 k s):=by
 rw[show((k:Int)+(n:Int)).toNat=k+n by omega,List.drop_take,show k+n-k=n by omega]
structure ScS where
 k:Nat
 L:List Tk
 deriving Inhabited
theorem Vq(s:bC)(t:s.length<=1000000000):Ok prog 85 [.str s] ⟨.tup [.own 2 ((scanS s).1.map Tk.d),.d (aI (scanS s).2)],true⟩:=by
 refine Ok.two func85 iY (c:=_) rfl ntmps85 bB results85 rfl λu X i=>?_;apply aD;simp;refine fF.scope ?_;apply aD;simp;apply aD;simp;apply aF;refine fF.label ?_;simp;apply eG;refine aZ (ι:=ScS) (λ⟨k,L⟩=>bA [(0,.d (.str s)),(4,.ow 4 0 L.length),(5,.d (aI k))]) (λ⟨k,L⟩=>aK [(4,.row false 2 (L.map Tk.d))]) (λ⟨k,L⟩=>L.length<=k/\k<=s.length/\scanS s=(L++(oJ s k).1,(oJ s k).2)) (λ⟨k,L⟩=>s.length-k) ⟨0,[]⟩ (aA i [0,4,5] [(4,4)]) (⟨B2 _,B6 _,by simp[oJ,scanS]⟩) λ⟨k,L⟩ d=>?_;apply aF;apply bE;simp;refine⟨λo=>?_,λo=>?_⟩
 .apply aG;simp;apply aW;apply fE;have f:k<s.length:=aE;apply aJ;simp;refine⟨f,?_⟩;apply aW;refine bH (ι:=BC) (λ⟨b⟩=>bA [(0,.d (.str s)),(4,.ow 4 0 L.length),(5,.d (aI k)),(14,.d (.bool b))]) (λ⟨b⟩=>aK [(4,.row false 2 (L.map Tk.d))]) (λ⟨b⟩=>b=true↔(((s[k]?.getD 0).toNat:Int)=32\/((s[k]?.getD 0).toNat:Int)=10)) ?_ λ⟨b⟩ h=>?_
  .apply bE;simp;refine⟨λp=>?_,λp=>?_⟩
   .apply aG;simp;refine XV.mk ⟨decide (((s[k]?.getD 0).toNat:Int)=32)⟩ (aA i [0,4,5,14] [(4,4)]) ?_;simp[p]
   .apply aJ;simp;refine XV.mk ⟨decide (((s[k]?.getD 0).toNat:Int)=10)⟩ (aA i [0,4,5,14] [(4,4)]) ?_;simp only[decide_eq_true_eq];omega
  .apply aM;simp;refine⟨λl=>?_,λl=>?_⟩
   .have j:=(yP f).1 (h.1 l);apply aD;simp;refine⟨aE,?_⟩;apply bP;simp;refine On.mk ⟨k+1,L⟩ (aA i [0,4,5] [(4,4)]) ?_ ?_
    .refine⟨C4 d.1,f,?_⟩;rw[d.2.2,CD f j]
    .show s.length-(k+1)<s.length-k;omega
   .have j:¬(s[k]=32\/s[k]=10):=λq=>by simp[h.2 ((yP f).2 q)]at l
    apply aG;simp;apply aF;have r:=Yj s[k] (s.drop (k+1)) kD;rw[<-A1 f]at r;refine bG (og 22 (.plain ⟨.d (aI (nextN (s.drop k))),true⟩)) ?_;simp;refine⟨⟨aE,r⟩,?_⟩;apply aF;apply bE;simp;refine⟨λm=>?_,λm=>?_⟩
    .apply bP;simp;apply aD;simp;apply aH;simp;have e:=d.2.2;rw[EH f j m]at e;rw[e];exact⟨⟨bB,λa _ c g=>by simp[Tk.d,aU]at g;rcases g with rfl|rfl<;>rfl⟩,rfl⟩
    .apply aG;simp;apply aF;have n:=wA (s.drop k);rw[A3]at n;apply aJ;simp;refine⟨⟨⟨⟨aE,aE⟩,aE,aE⟩,aE,aE⟩,?_⟩;apply aJ;simp;refine⟨aE,?_⟩;refine On.mk ⟨k+nextN (s.drop k),L++[⟨(s.drop k).take (nextN (s.drop k)),k⟩]⟩ (aA i [0,4,5] [(35,4)] (hH:=by simp[Tk.d,PO])) ?_ ?_
     .refine⟨?_,?_,?_⟩
      .show(L++[_]).length<=k+nextN (s.drop k);rw[B0,B1];omega
      .show k+nextN (s.drop k)<=s.length;omega
      .rw[d.2.2,GJ f j m];simp
     .show s.length-(k+nextN (s.drop k))<s.length-k;omega
 .apply bP;simp;apply aD;simp;apply aH;simp;have e:=d.2.2;rw[GI o]at e;rw[e];exact⟨⟨bB,λa _ c g=>by simp[Tk.d,aU]at g;rcases g with rfl|rfl<;>rfl⟩,rfl⟩
theorem Ym(s:bC)(a:s.length<=1000000000):Ok prog 85 [.str s] ⟨.tup [.d (.sl ((scanS s).1.map Tk.d)),.d (aI (scanS s).2)],true⟩:=Gm (Vq s a)
end
section
attribute[local simp] aR bJ bF aO aL aX aP
attribute[local simp] kH.cond Nd.d_eq nd_t nd_dr nd_td ndsD aQ bN
def mS(l:List Tk):DV:=.sl (l.map Tk.d)
theorem aBJ:∀t:Tk,(aU t.d).length=2:=λ_=>rfl
def dW(p:PS):List (Nat×bI):=[(0,.box false [.d (mS p.l),.d (aI p.e)])]
attribute[local simp] mS dW
theorem dK(c:Prop)[Decidable c](A B:bI)(x:Nat):cD (λx=>if x=0 then A else B) (if c then []else [(0,A)]) x=if x=0 then A else B:=by
 by_cases h:c<;>by_cases q:x=0<;>simp[h,q,cD,cP]
attribute[local simp] dK
theorem RP{p:PS}(h:¬p.e=0\/p.l=[]):p.peek=[]:=by
 unfold PS.peek;by_cases q:p.e=0
 .rcases h with h|h
  .exact absurd q h
  .rw[if_neg (by simpa using q),h]
 .rw[if_pos q]
theorem RQ{p:PS}{t:Tk}{r:List Tk}(h:p.e=0)(a:p.l=t::r):p.peek=t.text:=by
 unfold PS.peek;rw[if_neg (by simpa using h),a]
theorem nQ{p:PS}{s:bC}:p.is s=true↔s≠[]/\p.peek=s:=by simp[PS.is]
theorem dL{p:PS}{s:bC}(h:p.is s=true):p.took s=p.skip:=if_pos h
theorem qW{p:PS}{s:bC}(h:¬p.is s=true):p.took s=p:=if_neg h
theorem mJ(p:PS):mE prog 156 [.bx 0 0] (dW p) (dW p) (.d (.str p.peek)):=by
 unfold dW;refine nL func156 rfl ntmps156 results156 λe X b=>?_;apply aD;simp;apply aF;apply bE;simp;refine⟨λg=>?_,λc d=>?_⟩
 .apply aD;simp;apply aH;simp;exact aA b [2] [(0,0)] (by simp[RP g])
 .apply aG;simp;apply aF;obtain⟨t,r,a⟩:=List.exists_cons_of_ne_nil d;apply aJ;simp[a,Tk.d];apply aH;simp;exact aA b [2] [(0,0)] (by simp[RQ c a]) (by simp[a])
theorem yQ(p:PS)(e:Int):mE prog 157 [.bx 0 0,.d (aI e)] (dW p) (dW (p.fail e)) (.tup []):=by
 unfold dW;refine pD func157 rfl ntmps157 results157 λc X b=>?_;apply bE;simp;refine⟨λa=>?_,λa=>?_⟩
 .apply aJ;simp;exact aA b [] [(0,0)] (hH:=by simp[PS.fail,a])
 .apply aG;simp;exact aA b [] [(0,0)] (hH:=by simp[PS.fail,a])
theorem jV(p:PS)(s:bC):mE prog 158 [.bx 0 0,.d (.str s)] (dW p) (dW (p.took s)) (.d (.bool (p.is s))):=by
 unfold dW;refine nL func158 rfl ntmps158 results158 λh X c=>?_;apply aD;simp;apply aF;refine dH (oh 9 (dW p) (.d (.str p.peek))) ?_;simp;refine⟨λ_=>mJ p,?_⟩;apply aM;simp;refine⟨λg=>?_,λd e=>?_⟩
 .apply aD;simp;apply aH;simp;have b:¬p.is s=true:=λq=>by
   obtain⟨q1,q2⟩:=nQ.1 q;rcases g with g|g
   .exact q1 g
   .exact g q2
  exact aA c [4] [(0,0)] (by simp[b]) (by simp[qW b])
 .apply aG;simp;apply aF;have a:p.is s=true:=nQ.2 ⟨d,by simpa using e⟩;have f:=iD a;apply aJ;simp;refine⟨⟨aE,λt _=>aBJ t⟩,?_⟩;apply aD;simp;apply aH;simp;exact aA c [4] [(0,0)] (by simp[a]) (by simp[dL a,PS.skip])
theorem PP{p:PS}{s:bC}(h:p.is s=true):p.need s=p.took s:=by unfold PS.need PS.took;rw[if_pos h,if_pos h]
theorem Vr{p:PS}{s:bC}(h:p.is s=false):p.need s=(p.took s).fail 2:=by
 have a:¬p.is s=true:=by simp[h]
 rw[qW a];unfold PS.need;rw[if_neg a]
theorem AZ{p:PS}(h:isNameB p.peek=true):nameP p=(p.peek,p.took p.peek):=by
 have:p.is p.peek=true:=nQ.2 ⟨λe=>(by rw[e]at h;cases h),rfl⟩;rw[dL this];unfold nameP;rw[if_pos h]
theorem wI{p:PS}(h:isNameB p.peek=false):nameP p=([],p.fail 2):=by unfold nameP;rw[if_neg (by simp[h])]
theorem kU(p:PS)(s:bC):mE prog 161 [.bx 0 0,.d (.str s)] (dW p) (dW (p.need s)) (.tup []):=by
 unfold dW;refine pD func161 rfl ntmps161 results161 λd X c=>?_;refine dH (oh 6 (dW (p.took s)) (.d (.bool (p.is s)))) ?_;simp;refine⟨jV p s,?_⟩;apply aM;simp;refine⟨λb=>?_,λb=>?_⟩
 .have a:=Vr b;refine bG (oh 9 (dW ((p.took s).fail 2)) (.tup [])) ?_;simp;refine⟨yQ (p.took s) 2,?_⟩;exact aA c [] [(0,0)] (hH:=by simp[a])
 .have a:=PP b;apply aG;simp;exact aA c [] [(0,0)] (hH:=by simp[a])
theorem Ba(p:PS):mE prog 159 [.bx 0 0] (dW p) (dW (nameP p).2) (.d (.str (nameP p).1)):=by
 unfold dW;refine nL func159 rfl ntmps159 results159 λc X b=>?_;apply aD;simp;refine dH (oh 5 (dW p) (.d (.str p.peek))) ?_;simp;refine⟨mJ p,?_⟩;apply aF;refine dH (og 7 (.plain ⟨.d (.bool (isNameB p.peek)),true⟩)) ?_;simp;refine⟨GA p.peek,?_⟩;apply aM;simp;refine⟨λa=>?_,λa=>?_⟩
 .refine dH (oh 10 (dW (p.fail 2)) (.tup [])) ?_;simp;refine⟨yQ p 2,?_⟩;apply aD;simp;apply aH;simp;exact aA b [2] [(0,0)] (by simp[wI a]) (by simp[wI a])
 .apply aG;simp;refine dH (oh 13 (dW (p.took p.peek)) (.d (.bool (p.is p.peek)))) ?_;simp;refine⟨jV p p.peek,?_⟩;apply aD;simp;apply aH;simp;exact aA b [2] [(0,0)] (by simp[AZ a]) (by simp[AZ a])
end
section
attribute[local simp] aR bJ bF aO aL aX aP
attribute[local simp] kH.cond Nd.d_eq nd_t nd_dr nd_td ndsD aQ
def Tk.r(t:Tk):DV:=.agg [aI t.at_,aI (t.at_+t.text.length)]
def InT(s:bC)(t:Tk):Prop:=∃a:Nat,t.at_=a/\a+t.text.length<=s.length/\(s.drop a).take t.text.length=t.text
theorem EI(s:bC):∀(f k:Nat),k<=s.length->∀t∈(scanF f (s.drop k) k).1,InT s t
 |0,_,_,t,h=>by simp[scanF]at h
 |f+1,k,hk,t,h=>by
  by_cases b:k<s.length
  .have a:=A1 b;have d:=EI s f (k+1) b;have g:=EI s f (k+nextN (s.drop k));generalize s[k]=c at a;have i:=wA (s.drop k);rw[A3]at i;have e:scanF (f+1) (s.drop k) k=if c=32\/c=10 then scanF f (s.drop (k+1)) ((k:Int)+1)else if nextN (s.drop k)=0 then([],(k:Int))else
    (⟨(s.drop k).take (nextN (s.drop k)),k⟩::(scanF f ((s.drop k).drop (nextN (s.drop k))) ((k:Int)+nextN (s.drop k))).1,(scanF f ((s.drop k).drop (nextN (s.drop k))) ((k:Int)+nextN (s.drop k))).2):=by
    rw[a];rfl
   rw[e]at h;split at h
   .exact d t (by simpa using h)
   .split at h
    .simp at h
    .rw[B4]at h;simp only[List.mem_cons]at h;rcases h with h|h
     .refine⟨k,by rw[h],?_,?_⟩
      .rw[h];simp only[B9,A3];omega
      .rw[h];simp only[B9];rw[Nat.min_eq_left (by rw[A3];omega)]
     .exact g aE t (by simpa using h)
  .rw[A6 aE]at h;simp[scanF]at h
theorem RR{s:bC}{i:Nat}(h:0<=tA s i):0<nextN (s.drop i):=by
 unfold tA at h;split at h
 .assumption
 .omega
theorem JZ{s:bC}{t:Tk}(h:t∈(scanS s).1):InT s t:=EI s s.length 0 (B6 _) t (by simpa [scanS]using h)
theorem RS(s:bC)(w:s.length<=1000000000):Ok prog 106 [.str s] ⟨.tup [.own 2 ((scanS s).1.map Tk.r),.d (aI (scanS s).2)],true⟩:=by
 refine Ok.two func106 iY (c:=_) rfl ntmps106 bB results106 rfl λx X n=>?_;apply aD;simp;apply aD;simp;apply aD;simp;apply eG;refine aZ (ι:=ScS) (λ⟨k,L⟩=>bA [(0,.d (.str s)),(4,.ow 4 0 L.length),(5,.d (aI k))]) (λ⟨k,L⟩=>aK [(4,.row false 2 (L.map Tk.r))]) (λ⟨k,L⟩=>L.length<=k/\k<=s.length/\scanS s=(L++(oJ s k).1,(oJ s k).2)) (λ⟨k,L⟩=>s.length-k) ⟨0,[]⟩ (aA n [0,4,5] [(4,4)]) (⟨B2 _,B6 _,by simp[oJ,scanS]⟩) λ⟨k,L⟩ d=>?_;apply aF;apply bE;simp;refine⟨λo=>?_,λo=>?_⟩
 .apply aG;simp;apply aW;apply fE;have f:k<s.length:=aE;apply aJ;simp;refine⟨⟨f,λ_=>f⟩,?_⟩;apply aM;simp;refine⟨λg=>?_,λu v=>?_⟩
  .have l:=(yP f).1 g;apply aD;simp;refine⟨aE,?_⟩;apply bP;simp;refine On.mk ⟨k+1,L⟩ (aA n [0,4,5] [(4,4)]) ?_ ?_
   .refine⟨C4 d.1,f,?_⟩;rw[d.2.2,CD f l]
   .show s.length-(k+1)<s.length-k;omega
  .have l:¬(s[k]=32\/s[k]=10):=λq=>by have:=(yP f).2 q;omega
   apply aG;simp;apply aF;have t:=Vp s k f aE;refine bG (og 25 (.plain ⟨.d (aI (tA s k)),true⟩)) ?_;simp;refine⟨t,?_⟩;apply aF;apply bE;simp;refine⟨λp=>?_,λp=>?_⟩
   .apply aD;simp;apply aH;simp;have r:nextN (s.drop k)=0:=by
     rcases B5 (nextN (s.drop k))with z|z
     .exact z
     .rw[show tA s k=(k:Int)+nextN (s.drop k) from if_pos z]at p;omega
    have e:=d.2.2;rw[EH f l r]at e;rw[e];exact⟨⟨bB,λa _ c h=>by simp[Tk.r,aU]at h;rcases h with rfl|rfl<;>rfl⟩,rfl⟩
   .have j:0<nextN (s.drop k):=RR aE;have i:tA s k=(k:Int)+nextN (s.drop k):=if_pos j;have m:=wA (s.drop k);rw[A3]at m;have b:min (nextN (s.drop k)) (s.length-k)=nextN (s.drop k):=aE;apply aG;simp;apply aD;simp;refine⟨⟨aE,aE⟩,?_⟩;apply aJ;simp;refine On.mk ⟨k+nextN (s.drop k),L++[⟨(s.drop k).take (nextN (s.drop k)),k⟩]⟩ (aA n [0,4,5] [(35,4)] (by simp[i]) (by simp[Tk.r,i,b])) ?_ ?_
    .refine⟨?_,?_,?_⟩
     .show(L++[_]).length<=k+nextN (s.drop k);rw[B0,B1];omega
     .show k+nextN (s.drop k)<=s.length;omega
     .rw[d.2.2,GJ f l aE];simp
    .show s.length-(k+nextN (s.drop k))<s.length-k;omega
 .apply bP;simp;apply aD;simp;apply aH;simp;have e:=d.2.2;rw[GI o]at e;rw[e];exact⟨⟨bB,λa _ c h=>by simp[Tk.r,aU]at h;rcases h with rfl|rfl<;>rfl⟩,rfl⟩
theorem Ka(s:bC)(a:s.length<=1000000000):Ok prog 106 [.str s] ⟨.tup [.d (.sl ((scanS s).1.map Tk.r)),.d (aI (scanS s).2)],true⟩:=Gm (RS s a)
end
end Go.Eng
namespace Go.Proofs
open Go.Shelf
def Tryz.atoiLay_ren:Go.Shelf.Ren:=⟨λ|172=>236|244=>289|245=>290|247=>321|279=>322|280=>323|281=>324|282=>325|287=>348|316=>349|171=>167|205=>350|321=>364|322=>365|243=>241|246=>301|283=>328|284=>329|285=>330|286=>331|129=>208|317=>352|318=>353|319=>354|320=>355|337=>366|338=>367|n=>n,λ|9=>9|3=>3|75=>260|76=>261|4=>4|5=>5|167=>302|37=>38|0=>0|85=>303|2=>2|168=>305|53=>93|175=>322|46=>166|210=>326|127=>337|145=>340|143=>338|21=>21|171=>313|173=>315|212=>329|51=>90|20=>20|213=>330|232=>99|233=>92|80=>205|n=>n,λ|15=>6|16=>7|17=>8|18=>9|19=>10|n=>n⟩
theorem Tryz.atoiLay:Go.Proofs.Lays.n172 prog Tryz.atoiLay_ren:={
 mixed:=by kernel_rfl,
 f129:=func208.trans (congrArg some (by kernel_rfl)),
 f171:=func167.trans (congrArg some (by kernel_rfl)),
 f172:=func236.trans (congrArg some (by kernel_rfl)),
 f205:=func350.trans (congrArg some (by kernel_rfl)),
 f243:=func241.trans (congrArg some (by kernel_rfl)),
 f244:=func289.trans (congrArg some (by kernel_rfl)),
 f245:=func290.trans (congrArg some (by kernel_rfl)),
 f246:=func301.trans (congrArg some (by kernel_rfl)),
 f247:=func321.trans (congrArg some (by kernel_rfl)),
 f279:=func322.trans (congrArg some (by kernel_rfl)),
 f280:=func323.trans (congrArg some (by kernel_rfl)),
 f281:=func324.trans (congrArg some (by kernel_rfl)),
 f282:=func325.trans (congrArg some (by kernel_rfl)),
 f283:=func328.trans (congrArg some (by kernel_rfl)),
 f284:=func329.trans (congrArg some (by kernel_rfl)),
 f285:=func330.trans (congrArg some (by kernel_rfl)),
 f286:=func331.trans (congrArg some (by kernel_rfl)),
 f287:=func348.trans (congrArg some (by kernel_rfl)),
 f316:=func349.trans (congrArg some (by kernel_rfl)),
 f317:=func352.trans (congrArg some (by kernel_rfl)),
 f318:=func353.trans (congrArg some (by kernel_rfl)),
 f319:=func354.trans (congrArg some (by kernel_rfl)),
 f320:=func355.trans (congrArg some (by kernel_rfl)),
 f321:=func364.trans (congrArg some (by kernel_rfl)),
 f322:=func365.trans (congrArg some (by kernel_rfl)),
 f337:=func366.trans (congrArg some (by kernel_rfl)),
 f338:=func367.trans (congrArg some (by kernel_rfl)),
 t0:=underlying0,
 a0:=isAgg0,
 z0:=sizeOf0,
 v0:=zeroValue0,
 t2:=underlying2,
 a2:=isAgg2,
 z2:=sizeOf2,
 v2:=zeroValue2,
 t3:=underlying3,
 a3:=isAgg3,
 z3:=sizeOf3,
 v3:=zeroValue3,
 t4:=underlying4,
 a4:=isAgg4,
 z4:=sizeOf4,
 v4:=zeroValue4,
 t5:=underlying5,
 a5:=isAgg5,
 z5:=sizeOf5,
 v5:=zeroValue5,
 t9:=underlying9,
 a9:=isAgg9,
 z9:=sizeOf9,
 v9:=zeroValue9,
 t20:=underlying20,
 a20:=isAgg20,
 z20:=sizeOf20,
 v20:=zeroValue20,
 t21:=underlying21,
 a21:=isAgg21,
 z21:=sizeOf21,
 v21:=zeroValue21,
 t37:=underlying38,
 a37:=isAgg38,
 z37:=sizeOf38,
 v37:=zeroValue38,
 t46:=underlying166,
 a46:=isAgg166,
 z46:=sizeOf166,
 v46:=zeroValue166,
 t51:=underlying90,
 a51:=isAgg90,
 z51:=sizeOf90,
 v51:=zeroValue90,
 t53:=underlying93,
 a53:=isAgg93,
 z53:=sizeOf93,
 v53:=zeroValue93,
 t75:=underlying260,
 a75:=isAgg260,
 z75:=sizeOf260,
 v75:=zeroValue260,
 t76:=underlying261,
 a76:=isAgg261,
 z76:=sizeOf261,
 v76:=zeroValue261,
 t85:=underlying303,
 a85:=isAgg303,
 z85:=sizeOf303,
 v85:=zeroValue303,
 t127:=underlying337,
 a127:=isAgg337,
 z127:=sizeOf337,
 v127:=zeroValue337,
 t143:=underlying338,
 a143:=isAgg338,
 z143:=sizeOf338,
 v143:=zeroValue338,
 t145:=underlying340,
 a145:=isAgg340,
 z145:=sizeOf340,
 v145:=zeroValue340,
 t167:=underlying302,
 a167:=isAgg302,
 z167:=sizeOf302,
 v167:=zeroValue302,
 t168:=underlying305,
 a168:=isAgg305,
 z168:=sizeOf305,
 v168:=zeroValue305,
 t171:=underlying313,
 a171:=isAgg313,
 z171:=sizeOf313,
 v171:=zeroValue313,
 t173:=underlying315,
 a173:=isAgg315,
 z173:=sizeOf315,
 v173:=zeroValue315,
 t175:=underlying322,
 a175:=isAgg322,
 z175:=sizeOf322,
 v175:=zeroValue322,
 t210:=underlying326,
 a210:=isAgg326,
 z210:=sizeOf326,
 v210:=zeroValue326,
 t212:=underlying329,
 a212:=isAgg329,
 z212:=sizeOf329,
 v212:=zeroValue329,
 t213:=underlying330,
 a213:=isAgg330,
 z213:=sizeOf330,
 t232:=underlying99,
 a232:=isAgg99,
 z232:=sizeOf99,
 v232:=zeroValue99,
 t233:=underlying92,
 a233:=isAgg92,
 z233:=sizeOf92,
 v233:=zeroValue92,
 g15:=by kernel_rfl,
 g16:=by kernel_rfl,
 g17:=by kernel_rfl,
 g18:=by kernel_rfl,
 g19:=by kernel_rfl}
end Go.Proofs
namespace Go.Eng
section
attribute[local simp] aR bJ bF aO aL aX aP
attribute[local simp] kH.cond Nd.d_eq nd_t nd_dr nd_td ndsD aQ bN mS dW dK
theorem BT{c:UInt8}(h:digitB c=true):Lib.digitVal c=some (c.toNat-48)/\48<=c.toNat/\c.toNat<=57:=by
 rw[BJ]at h;simp only[C0,decide_eq_true_eq]at h;have a:48<=c.toNat:=aE;have b:c.toNat<=57:=aE;exact⟨by unfold Lib.digitVal;rw[if_pos ⟨a,b⟩],a,b⟩
theorem Kb:∀(s:bC) (a:Nat),(∀c∈s,digitB c=true)->∃m:Nat,Lib.decFrom a s=some m/\(m:Int)=s.foldl (λn c=>10*n+((c.toNat:Int)- 48)) (a:Int)
 |[],a,_=>⟨a,rfl,rfl⟩
 |c::r,a,h=>by
  obtain⟨e,g,i⟩:=BT (h c (C2 ..));obtain⟨m,b,d⟩:=Kb r (a*10+(c.toNat-48)) λx f=>h x (List.mem_cons_of_mem _ f);refine⟨m,?_,?_⟩
  .unfold Lib.decFrom;rw[e];exact b
  .rw[d,List.foldl_cons];congr 1;omega
theorem Kc{s:bC}(f:s≠[])(h:∀c∈s,digitB c=true):Lib.atoi s=some (valS s):=by
 cases s with
 |nil=>exact absurd rfl f
 |cons c r=>
  obtain⟨m,b,d⟩:=Kb (c::r) 0 h;obtain⟨_,a,j⟩:=BT (h c (C2 ..));have g:¬(c==45)=true:=λq=>(by have e:c=45:=(by simpa using q);subst e;exact absurd a bK);have i:¬(c==43)=true:=λq=>(by have e:c=43:=(by simpa using q);subst e;exact absurd a bK);show(if(c==45)=true then(Lib.decNat r).map (λm:Nat=> -(m:Int))else if(c==43)=true then(Lib.decNat r).map (λm:Nat=>(m:Int))else(Lib.decNat (c::r)).map (λm:Nat=>(m:Int)))=some (valS (c::r));rw[if_neg g,if_neg i];unfold Lib.decNat;rw[if_neg bB,b,Option.map_some,d];rfl
theorem MU{s:bC}(h:My s)(b:digitB (s[0]?.getD 0)=true):s.length<=3/\∀c∈s,digitB c=true:=by
 obtain⟨f,a⟩:=h;cases s with
 |nil=>exact absurd rfl f
 |cons c r=>
  have b:digitB c=true:=b;obtain⟨_,e,l⟩:=BT b;have k:¬letterB c=true:=λq=>by
   rw[zX]at q;simp only[C0,decide_eq_true_eq]at q;omega
  have d:¬c=36:=λq=>by subst q;exact absurd e bK
  rw[mI,if_neg k,if_neg d,if_pos b]at a;by_cases q:runP digitB (c::r)<=3
  .rw[if_pos q]at a;refine⟨aE,λx j=>?_⟩;obtain⟨i,g,rfl⟩:=List.getElem_of_mem j;exact runP_all g aE
  .rw[if_neg q]at a;simp at a
theorem Ih{s:bC}(h:My s):s.length<=17:=by
 obtain⟨f,b⟩:=h;cases s with
 |nil=>simp
 |cons c r=>
  rw[<-b,mI];have a:∀t:bC,wordN t<=16:=λt=>by
   rcases B5 (wordN t)with q|q
   .omega
   .obtain⟨_,_,_,_,_,q2⟩:=yB q;exact q2
  have d:=a (c::r);have e:=a r;repeat' split
  all_goals omega
theorem rO{p:PS}(h:cF p.l):p.peek.length<=17:=by
 by_cases q:p.peek=[]
 .rw[q];simp
 .exact Ih (AL h q)
theorem Yn(s:bC)(n:Int)(g:s.length<=18)(h:Lib.atoi s=some n):Ok prog 236 [.str s] ⟨.tup [.d (aI n),.d (.val .nilIface)],true⟩:=by
 refine⟨⟨_,func236,iY,rfl⟩,λw X j l b=>?_⟩
 match j,b.1 with
 |[u],_=>
  have d:=b.2 0 _ _ rfl rfl;cases d;refine(Go.Proofs.Any.strconv_Atoi Tryz.atoiLay ⟨s.toArray⟩ n (by simpa [ByteArray.size]using g) (by simpa using h) w).mono ?_;rintro e m ⟨rfl,t,rfl⟩;refine⟨_,rfl,?_,?_⟩
  .refine⟨by unfold Lib.bytesWorld World.freeze;split<;>rfl,by unfold Lib.bytesWorld World.freeze;split<;>rfl,by unfold Lib.bytesWorld World.freeze;split<;>rfl,by rw[Lib.bytesWorld_size];omega,λk f=>Lib.bytesWorld_at_old _ _ _ k f,?_⟩;unfold Lib.bytesWorld World.freeze;split<;>exact Nat.le_succ w.drawn
  .refine⟨[.int .i64 n,.nilIface],λ_=>none,rfl,rfl,λ_ _ _ q=>(by cases q),λi r v a c=>?_⟩
   match i,a with
   |0,a=>cases a;cases c;exact .int _ _
   |1,a=>cases a;cases c;exact .val _ rfl
theorem FN(s t:bC)(b:s.length<=9223372036854775807)(f:t.length<=9223372036854775807):Ok prog 347 [.str s,.str t] ⟨.tup [.d (.str (if s.take t.length=t then s.drop t.length else s)),.d (.bool (decide (s.take t.length=t)))],true⟩:=by
 refine Ok.two func347 iY (c:=_) rfl ntmps347 bB results347 rfl λi X g=>?_;apply aD;simp;apply fE;have h:=zK s t b f;refine bG (og 8 (.plain ⟨.d (.bool (decide (s.take t.length=t))),true⟩)) ?_;simp;refine⟨h,?_⟩;apply aM;simp;refine⟨λa=>?_,λa=>?_⟩
 .apply aD;simp;apply aH;simp;exact⟨λq=>absurd q a,a⟩
 .apply aG;simp;apply aF;have d:t.length<=s.length:=by have e:=congrArg D1 a;rw[B9]at e;omega
  apply aJ;simp;refine⟨aE,?_⟩;apply aH;simp;exact⟨λq=>absurd a q,a⟩
theorem Ii(s t:bC)(a:s.length<=9223372036854775807)(b:t.length<=9223372036854775807):Ok prog 320 [.str s,.str t] ⟨.tup [.d (.str (if s.take t.length=t then s.drop t.length else s)),.d (.bool (decide (s.take t.length=t)))],true⟩:=by
 refine Ok.two func320 iY (c:=_) rfl ntmps320 bB results320 rfl λe X d=>?_;apply aD;simp;apply aF;have h:=FN s t a b;refine bG (og 8 (.plain ⟨.tup [.d (.str (if s.take t.length=t then s.drop t.length else s)),.d (.bool (decide (s.take t.length=t)))],true⟩)) ?_;simp[bM];refine⟨h,?_⟩;apply aH;simp
theorem qX{p:PS}(h:p.peek.take 1=[36]):p.peek=36::p.peek.drop 1/\localP p=(p.peek.drop 1,p.took p.peek):=by
 cases e:p.peek with
 |nil=>rw[e]at h;cases h
 |cons c r=>
  rw[e]at h;have a:c=36:=by simpa using h
  subst a;have b:p.is (36::r)=true:=nQ.2 ⟨bB,e⟩;refine⟨rfl,?_⟩;rw[dL b];unfold localP;rw[e];rfl
theorem tB{p:PS}(h:¬p.peek.take 1=[36]):localP p=([],p.fail 2):=by
 unfold localP;split
 .rename_i r e;rw[e]at h;exact absurd rfl h
 .rfl
theorem PQ{k:Int}{p:PS}(h:p.peek=[]\/digitB (p.peek[0]?.getD 0)=false):numeralP k p=(0,p.fail 2):=by
 unfold numeralP;split
 .rfl
 .rename_i c r e;rw[e]at h;rcases h with h|h
  .cases h
  .have h:digitB c=false:=h;rw[if_neg (by simp[h])]
theorem PR{k:Int}{p:PS}(d:¬p.peek=[])(a:digitB (p.peek[0]?.getD 0)=true)(b:valS p.peek<loAt k\/hiAt k<valS p.peek):numeralP k p=(0,p.fail 5):=by
 unfold numeralP;split
 .rename_i e;exact absurd e d
 .rename_i c r e;rw[e]at a b;have a:digitB c=true:=a;rw[if_pos a,if_pos b]
theorem Vs{k:Int}{p:PS}(b:¬p.peek=[])(a:digitB (p.peek[0]?.getD 0)=true)(d:¬(valS p.peek<loAt k\/hiAt k<valS p.peek)):numeralP k p=(valS p.peek,p.took p.peek):=by
 have f:p.is p.peek=true:=nQ.2 ⟨b,rfl⟩;rw[dL f];unfold numeralP;split
 .rename_i e;exact absurd e b
 .rename_i c r e;rw[e]at a d;have a:digitB c=true:=a;rw[if_pos a,if_neg d,e]
theorem Bb(p:PS)(h:cF p.l):mE prog 287 [.bx 0 0] (dW p) (dW (localP p).2) (.d (.str (localP p).1)):=by
 unfold dW;refine nL func287 rfl ntmps287 results287 λk X e=>?_;apply aD;simp;apply aF;have j:=rO h;have g:=Ii p.peek [36] aE bK;refine bG (λ|7=>some (.gen ⟨[(0,0)],[],[],dW p,.d (.str p.peek)⟩)|8=>some<| .plain ⟨.tup [.d (.str (if p.peek.take 1=[36]then p.peek.drop 1 else p.peek)),.d (.bool (decide (p.peek.take 1=[36])))],true⟩|_=>none) ?_;simp[bM];refine⟨⟨mJ p,by simpa using g⟩,?_⟩;apply aF;apply bE;simp;refine⟨λa=>?_,λa=>?_⟩
 .refine dH (oh 14 (dW (p.fail 2)) (.tup [])) ?_;simp;refine⟨yQ p 2,?_⟩;apply aD;simp;apply aH;simp;exact aA e [2] [(0,0)] (by simp[tB a]) (by simp[tB a])
 .apply aG;simp;apply aF;obtain⟨f,c⟩:=qX a;have d:36::p.peek.tail=p.peek:=by rw[<-List.drop_one];exact f.symm
  have i:=jV p p.peek;have b:=congrArg D1 d;refine bG (oh 18 (dW (p.took p.peek)) (.d (.bool (p.is p.peek)))) ?_;simp[a];refine⟨⟨by simp at b;omega,by rw[d];exact i⟩,?_⟩;apply aD;simp;apply aH;simp;exact aA e [2] [(0,0)] (by simp[a,c]) (by simp[c])
theorem qY(p:PS)(k:Int)(o:cF p.l)(c:0<=k/\k<37):mE prog 163 [.bx 0 0,.d (aI k)] (dW p) (dW (numeralP k p).2) (.d (aI (numeralP k p).1)):=by
 unfold dW;refine nL func163 rfl ntmps163 results163 λu X l=>?_;apply aD;simp;refine dH (oh 9 (dW p) (.d (.str p.peek))) ?_;simp;refine⟨mJ p,?_⟩;apply fE;have n:=wF (p.peek[0]?.getD 0);refine bG (og 15 (.plain ⟨.d (.bool (digitB (p.peek[0]?.getD 0))),true⟩)) ?_;simp;refine⟨⟨λh=>C1.2 h,λ_=>n⟩,?_⟩;apply aM;simp;refine⟨λg=>?_,λa d=>?_⟩
 .refine dH (oh 19 (dW (p.fail 2)) (.tup [])) ?_;simp;refine⟨yQ p 2,?_⟩;apply aD;simp;apply aH;simp;have e:=PQ (k:=k) g;exact aA l [4] [(0,0)] (by simp[e]) (by simp[e])
 .apply aG;simp;apply aF;obtain⟨t,f⟩:=MU (AL o a) d;have m:=Yn p.peek (valS p.peek) aE (Kc a f);refine bG (og 22 (.plain ⟨.tup [.d (aI (valS p.peek)),.d (.val .nilIface)],true⟩)) ?_;simp[bM];refine⟨m,?_⟩;apply fE;have i:=glob1_lo c;have j:=glob1_hi c;have q:=glob1_len;apply aJ;simp[i,j];refine⟨⟨⟨⟨c,aE⟩,λ_=>c⟩,λ_=>aE⟩,?_⟩;apply aM;simp;refine⟨λb=>?_,λr s=>?_⟩
  .refine dH (oh 40 (dW (p.fail 5)) (.tup [])) ?_;simp;refine⟨yQ p 5,?_⟩;apply aD;simp;apply aH;simp;have e:=PR (k:=k) a d b;exact aA l [4] [(0,0)] (by simp[e]) (by simp[e])
  .apply aG;simp;refine dH (oh 43 (dW (p.took p.peek)) (.d (.bool (p.is p.peek)))) ?_;simp;refine⟨jV p p.peek,?_⟩;apply aD;simp;apply aH;simp;have e:=Vs (k:=k) a d aE;exact aA l [4] [(0,0)] (by simp[e]) (by simp[e])
theorem RT{k:Int}{p:PS}(h:cF p.l)(b:loAt k<=0/\0<=hiAt k/\ -999<=loAt k/\hiAt k<=999): -999<=(numeralP k p).1/\(numeralP k p).1<=999:=by
 by_cases q1:p.peek=[]\/digitB (p.peek[0]?.getD 0)=false
 .rw[PQ q1];simp
 .have q2:¬p.peek=[]:=λe=>q1 (.inl e);have q3:digitB (p.peek[0]?.getD 0)=true:=by
   cases e:digitB (p.peek[0]?.getD 0)with
   |true=>rfl
   |false=>exact absurd (.inr e) q1
  by_cases a:valS p.peek<loAt k\/hiAt k<valS p.peek
  .rw[PR q2 q3 a];simp
  .rw[Vs q2 q3 a];simp only;omega
theorem MV{p:PS}(h:p.is [45]=true):numberP p=(-(numeralP 0 (p.took [45])).1,(numeralP 0 (p.took [45])).2):=by
 rw[dL h];unfold numberP;rw[if_pos h]
theorem MW{p:PS}(h:p.is [45]=false):numberP p=numeralP 0 (p.took [45]):=by
 have a:¬p.is [45]=true:=by simp[h]
 rw[qW a];unfold numberP;rw[if_neg a]
theorem eK{p:PS}{s:bC}(h:cF p.l):cF (p.took s).l:=by
 unfold PS.took;split
 .exact dP h
 .exact h
theorem GK(p:PS)(b:cF p.l):mE prog 162 [.bx 0 0] (dW p) (dW (numberP p).2) (.d (aI (numberP p).1)):=by
 unfold dW;refine nL func162 rfl ntmps162 results162 λg X d=>?_;apply aD;simp;apply aF;refine dH (oh 4 (dW (p.took [45])) (.d (.bool (p.is [45])))) ?_;simp;refine⟨jV p [45],?_⟩;apply aM;simp;refine⟨λa=>?_,λa=>?_⟩
 .apply aF;have c:=qY (p.took [45]) 0 (eK b) bK;have f:=RT (k:=0) (eK (s:=[45]) b) bK;refine bG (oh 6 (dW (numeralP 0 (p.took [45])).2) (.d (aI (numeralP 0 (p.took [45])).1))) ?_;simp;refine⟨⟨c,aE⟩,?_⟩;apply aH;simp;have e:=MV a;exact aA d [2] [(0,0)] (by simp[e]) (by simp[e])
 .apply aG;simp;apply aF;have c:=qY (p.took [45]) 0 (eK b) bK;refine bG (oh 9 (dW (numeralP 0 (p.took [45])).2) (.d (aI (numeralP 0 (p.took [45])).1))) ?_;simp;refine⟨c,?_⟩;apply aH;simp;have e:=MW a;exact aA d [2] [(0,0)] (by simp[e]) (by simp[e])
end
section
attribute[local simp] aR bJ bF aO aL aX aP
attribute[local simp] kH.cond Nd.d_eq nd_t nd_dr nd_td ndsD aQ bN dK
def prH(s:bC)(T:List Tk)(p:PS):List (Nat×bI):=[(0,.box false [.d (.str s),.d (.sl (T.map Tk.r)),.d (aI ((T.length:Int)- p.l.length)),.d (.bool (!decide (p.e=0))),.d (.bool (decide (p.e=5)))])]
attribute[local simp] prH
theorem Bc{p:PS}:((p.fail 2).e=0)=False:=eq_false (fail_e bK)
theorem Bd{p:PS}:((p.fail 5).e=0)=False:=eq_false (fail_e bK)
theorem Be{p:PS}:((p.fail 2).e=5)=(p.e=5):=by
 unfold PS.fail;split
 .rename_i h;simp[h]
 .rfl
theorem Ij{p:PS}:p.skip.e=p.e:=rfl
attribute[local simp] Bc Bd Be qQ Ij
end
section
attribute[local simp] aR bJ bF aO aL aX aP
attribute[local simp] kH.cond Nd.d_eq nd_t nd_dr nd_td ndsD aQ bN mS dW dK
theorem RU{p:PS}(h:(nameP p).2.is [46]=true):placeP p=(.mk 35 ((nameP p).1++46::(nameP ((nameP p).2.took [46])).1) 0 [],(nameP ((nameP p).2.took [46])).2):=by
 rw[dL h];unfold placeP;rw[if_pos h]
theorem Kd{p:PS}(h:(nameP p).2.is [46]=false):placeP p=(.mk 34 (nameP p).1 0 [],(nameP p).2.took [46]):=by
 have a:¬(nameP p).2.is [46]=true:=by simp[h]
 rw[qW a];unfold placeP;rw[if_neg a]
theorem uD{p:PS}(h:cF p.l):(nameP p).1.length<=17:=by
 unfold nameP;split
 .exact rO h
 .simp
theorem Ke(p:PS)(b:cF p.l):mE prog 288 [.bx 0 0] (dW p) (dW (placeP p).2) (.d (placeP p).1.d):=by
 unfold dW;refine lA func288 rfl ntmps288 results288 λg X c=>?_;apply aD;simp;refine dH (oh 5 (dW (nameP p).2) (.d (.str (nameP p).1))) ?_;simp;refine⟨Ba p,?_⟩;apply aF;refine dH (oh 8 (dW ((nameP p).2.took [46])) (.d (.bool ((nameP p).2.is [46])))) ?_;simp;refine⟨jV (nameP p).2 [46],?_⟩;apply aM;simp;refine⟨λa=>?_,λa=>?_⟩
 .have d:=uD b;have f:=uD (p:=(nameP p).2.took [46]) (eK (dZ b).2.1);refine fF.rd [[0],[0],[0]] [[],[],[],[],[0],[],[],[3]] (oh 13 (dW (nameP ((nameP p).2.took [46])).2) (.d (.str (nameP ((nameP p).2.took [46])).1))) ?_;simp;refine⟨⟨⟨aE,Ba _⟩,aE⟩,?_⟩;apply aD;simp;apply aH;simp;have e:=RU a;refine cO (x:=(placeP p).1.d) (by simp[e]) ?_;simp;exact aA c [0] [(0,0)] (hH:=by simp[e])
 .apply aG;simp;apply aD;simp;apply aH;simp;have e:=Kd a;refine cO (x:=(placeP p).1.d) (by simp[e]) ?_;simp;exact aA c [0] [(0,0)] (hH:=by simp[e])
def opD(o:bC×Int):DV:=.agg [.str o.1,aI o.2]
theorem MX:kP 6 2 Cb=opsL.map opD:=iY
def Yo(p:PS)(lv:Int):List (Nat×bI):=[(0,.box false [.d (mS p.l),.d (aI p.e)]),(1,.box false [.d (aI lv)]),(2,.box false [.bx 0 0])]
def Yp(p:PS)(lv:Int)(o:bC×Int):Bool:=decide (o.2=lv)&&decide (o.1=p.peek)
attribute[local simp] Yo opD
theorem aAc(p:PS)(b:Int)(o:bC×Int):mE prog 346 [.d (opD o),.bx 1 0,.bx 2 0] (Yo p b) (Yo p b) (.d (.bool (Yp p b o))):=by
 unfold Yo;refine nL func346 rfl ntmps346 results346 λd X c=>?_;apply aD;simp;apply aF;refine fF.rd [[],[],[],[],[],[0],[0]] [[],[],[],[],[],[],[],[],[0]] (oh 13 (dW p) (.d (.str p.peek))) ?_;simp;refine⟨λ_=>mJ p,?_⟩;apply aH;simp;by_cases a:o.2=b
 .exact aA c [4] [(0,0),(1,1),(2,2)] (by simp[a,Yp,Bool.beq_eq_decide_eq]) (by simp[a])
 .exact aA c [4] [(0,0),(1,1),(2,2)] (by simp[a,Yp]) (by simp[a])
theorem MY(p:PS)(a:Int)(l:List (bC×Int)):mE prog 345 [.d (.sl (l.map opD)),.fn 346 [.bx 1 0,.bx 2 0]] (Yo p a) (Yo p a) (.d (aI (pE (Yp p a) l))):=by
 unfold Yo;refine nL func345 rfl ntmps345 results345 λj X e=>?_;refine fF.len (t:=0) rfl λc=>?_;simp at c;apply aD;simp;apply eP;simp;apply aW;refine aZ (ι:=Nat) (λi=>bA [(0,.d (.sl (l.map opD))),(1,.fn 346 [.bx 1 0,.bx 2 0]),(7,.d (aI l.length)),(8,.d (aI i))]) (λi=>aK [(0,.box false [.d (mS p.l),.d (aI p.e)]),(1,.box false [.d (aI a)]),(2,.box false [.bx 0 0])]) (λi=>i<=l.length/\Ya (Yp p a) l i) (λi=>l.length-i) 0 (aA e [0,1,7,8] [(0,0),(1,1),(2,2)]) (⟨B6 _,Ya.zero⟩) λi b=>?_;apply aD;simp;apply aF;apply aM;simp;refine⟨λd=>?_,λd=>?_⟩
 .apply aG;simp;apply eG;apply aD;simp;apply aF;have f:i<l.length:=aE;have h:=aAc p a l[i];refine bG (og 16 (.gen ⟨[(0,0),(1,1),(2,2)],[],[],Yo p a,.d (.bool (Yp p a l[i]))⟩)) ?_;simp[f,eN];refine⟨h,?_⟩;apply aM;simp;refine⟨λg=>?_,λg=>?_⟩
  .apply aD;simp;apply aH;simp;exact aA e [4] [(0,0),(1,1),(2,2)] (by simp[yG (b.2.found d g)])
  .apply aG;simp;apply aJ;simp;refine⟨aE,?_⟩;refine On.mk (i+1) (aA e [0,1,7,8] [(0,0),(1,1),(2,2)]) ?_ ?_
   .exact⟨d,b.2.succ d g⟩
   .omega
 .apply bP;simp;apply aD;simp;apply aH;simp;exact aA e [4] [(0,0),(1,1),(2,2)] (by simp[yH (b.2.none aE)])
theorem Vt(q:bC×Int->Bool):(C8 6).find? (λi=>q (opsL.getD i ([],0)))=opsL.findIdx? q:=by
 rw[show C8 6=[0,1,2,3,4,5] from rfl];unfold opsL;simp only[C7,C3,List.getD_cons_zero,List.getD_cons_succ,List.find?_nil,List.findIdx?_nil];cases q ([60],1)<;>cases q ([60,61],1)<;>cases q ([61,61],1)<;>cases q ([43],2)<;>cases q ([45],2)<;>cases q ([42],3)<;>rfl
theorem PT(p:PS)(a:Int):opI a p.peek=pE (Yp p a) opsL:=by
 unfold opI pE;rw[<-Vt (Yp p a)];rfl
def Yq(l:List (bC×Int)):List DV:=l.flatMap λo=>[.str o.1,aI o.2]
theorem Vu:Cb=Yq opsL:=iY
theorem PU:∀(l:List (bC×Int)) (k:Nat) (h:k<l.length),(Yq l)[k*2]?.getD default=.str l[k].1
 |o::l,0,_=>rfl
 |o::l,k+1,h=>by
  have a:=PU l k (by simpa using h);have e:Yq (o::l)=.str o.1::aI o.2::Yq l:=rfl;rw[e,show(k+1)*2=k*2+1+1 by omega];exact a
theorem Ik{p:PS}{d:Int}(h:0<=opI d p.peek):Cb[(opI d p.peek).toNat*2]?.getD default=.str p.peek/\p.is p.peek=true/\opI d p.peek<6:=by
 rw[PT]at h|-;unfold pE at h|-;split at h
 .rename_i i f;obtain⟨a,b,_⟩:=List.findIdx?_eq_some_iff_getElem.1 f;simp only[Yp,C0,decide_eq_true_eq]at b;have c:∀o∈opsL,o.1≠[]:=bK;have e:=c _ (C5 a);rw[Vu,Int.toNat_natCast,PU opsL i a,b.2];rw[b.2]at e;have:i<6:=a;exact⟨rfl,nQ.2 ⟨e,rfl⟩,aE⟩
 .omega
theorem Vv{p:PS}{a:Int}(h:0<=opI a p.peek):opP a p=(opI a p.peek,p.took p.peek):=by
 rw[dL (Ik h).2.1];unfold opP;rw[if_pos h]
theorem aA5{p:PS}{a:Int}(h:opI a p.peek<0):opP a p=(opI a p.peek,p):=by
 unfold opP;rw[if_neg aE]
theorem Bf(p:PS)(lv:Int):mE prog 319 [.bx 0 0,.d (aI lv)] (dW p) (dW (opP lv p).2) (.d (aI (opP lv p).1)):=by
 unfold dW;refine nL func319 rfl ntmps319 results319 λi X d=>?_;apply aD;simp;apply aF;have c:=MY p lv opsL;have e:=BH;rw[<-PT]at c;refine bG (og 8 (.gen ⟨[(0,0),(3,1),(2,2)],[],[],Yo p lv,.d (aI (opI lv p.peek))⟩)) ?_;simp[MX];refine⟨⟨aE,c⟩,?_⟩;apply aF;apply bE;simp;refine⟨λb=>?_,λb=>?_⟩
 .have a:=Vv b;obtain⟨f,h,g⟩:=Ik b;refine fF.rd [] [[],[],[],[],[],[0]] (oh 16 (dW (p.took p.peek)) (.d (.bool (p.is p.peek)))) ?_;simp[f];refine⟨⟨⟨⟨b,g⟩,aE⟩,jV p p.peek⟩,?_⟩;apply aD;simp;apply aH;simp;exact aA d [4] [(0,0)] (by simp[a]) (by simp[a])
 .have a:=aA5 b;apply aG;simp;apply aD;simp;apply aH;simp;exact aA d [4] [(0,0)] (by simp[a]) (by simp[a])
end
section
attribute[local simp] aR bJ bF aO aL aX aP
attribute[local simp] kH.cond Nd.d_eq nd_t nd_dr nd_td ndsD aQ bN mS dW dK
structure mT(n:Nat)(g:FuncId)(x:PS->Nd×PS):Prop where
 ok:∀q:PS,q.l.length<n->cF q.l->mE prog g [.bx 0 0] (dW q) (dW (x q).2) (.d (x q).1.d)
 le:∀q:PS,q.l.length<n->cF q.l->(x q).2.l.length<=q.l.length/\cF (x q).2.l
structure ChS where
 f:Nat
 n:Nd
 q:PS
theorem RW{a:Int}{x:PS->Nd×PS}{f:Nat}{n:Nd}{q:PS}(b:q.l.length<f)(h:¬q.e=0):chainF a x f n q=(n,q):=by
 obtain⟨k,rfl⟩:∃k,f=k+1:=⟨f-1,aE⟩;rw[chainF,if_pos h]
theorem MZ{lv:Int}{x:PS->Nd×PS}{f:Nat}{n:Nd}{q:PS}(b:q.l.length<f)(h:q.e=0)(a:(opP lv q).1<0):chainF lv x f n q=(n,(opP lv q).2):=by
 obtain⟨k,rfl⟩:∃k,f=k+1:=⟨f-1,aE⟩;rw[chainF,if_neg (by simp[h]),if_pos a]
theorem Vw{a:Int}{x:PS->Nd×PS}{f:Nat}{n:Nd}{q:PS}(b:q.l.length<f)(h:q.e=0)(c:0<=(opP a q).1):
 chainF a x f n q=chainF a x (f-1) (.mk (26+(opP a q).1) [] 0 [n,(x (opP a q).2).1]) (x (opP a q).2).2:=by
 obtain⟨k,rfl⟩:∃k,f=k+1:=⟨f-1,aE⟩;rw[chainF,if_neg (by simp[h]),if_neg aE];rfl
theorem Dl{lv:Int}{q:PS}(b:0<=(opP lv q).1):(opP lv q).2.l.length+1=q.l.length/\(opP lv q).1<=5:=by
 have h:0<=opI lv q.peek:=b;obtain⟨_,a,c⟩:=Ik h;rw[Vv h,dL a];exact⟨iD a,by simp only;omega⟩
theorem Kf(p:PS)(a:Int)(x:PS->Nd×PS)(g:FuncId)(m:Nat)(c:mT m g x)(l:p.l.length<m)(k:cF p.l):mE prog 343 [.bx 0 0,.d (aI a),.bm g [.bx 0 0]] (dW p) (dW (chainP a x p).2) (.d (chainP a x p).1.d):=by
 unfold dW;refine lA func343 rfl ntmps343 results343 λy X i=>?_;apply aD;simp;apply aF;have r:=c.ok p l k;refine bG (oh 10 (dW (x p).2) (.d (x p).1.d)) ?_;simp[eN];refine⟨by simpa using r,?_⟩;apply eG;refine aZ (ι:=ChS) (λ⟨f,n,q⟩=>bA [(0,.bx 0 0),(1,.d (aI a)),(2,.bm g [.bx 0 0]),(6,.bx 6 0),(7,.bx 7 0)]) (λ⟨f,n,q⟩=>aK [(0,.box false [.d (mS q.l),.d (aI q.e)]),(6,.box false [.d (aI 0),.d (.str []),.d (aI 0),.nl]),(7,.box false [.d (aI n.kind),.d (.str n.text),.d (aI n.n),.d (ndsD n.kids)])]) (λ⟨f,n,q⟩=>q.l.length<f/\cF q.l/\q.l.length<=p.l.length/\chainP a x p=chainF a x f n q) (λ⟨f,n,q⟩=>q.l.length) ⟨(x p).2.l.length+1,(x p).1,(x p).2⟩ (aA i [0,1,2,6,7] [(0,0),(6,6),(7,7)]) (⟨A5 _,(c.le p l k).2,(c.le p l k).1,rfl⟩) λ⟨f,n,q⟩ b=>?_;apply aF;apply bE;simp;refine⟨λd=>?_,λd=>?_⟩
 .apply aG;simp;apply aW;apply aF;have t:=Bf q a;refine bG (oh 18 (dW (opP a q).2) (.d (aI (opP a q).1))) ?_;simp;refine⟨t,?_⟩;apply aF;apply bE;simp;refine⟨λh=>?_,λh=>?_⟩
  .apply bP;simp;apply aD;simp;apply aH;simp;have e:chainP a x p=(n,(opP a q).2):=by rw[b.2.2.2];exact MZ b.1 d h
   exact aA i [0] [(0,0)] (by simp[e]) (by simp[e])
  .apply aG;simp;obtain⟨w,or⟩:=Dl h;have j:=yD (lv:=a) b.2.1;have s:=c.ok (opP a q).2 aE j.2;refine fF.rd [[0,26],[0,26],[0]] [[],[],[],[],[0],[26],[],[7]] (oh 25 (dW (x (opP a q).2).2) (.d (x (opP a q).2).1.d)) ?_;simp[eN];refine⟨⟨⟨⟨aE,aE⟩,by simpa using s⟩,bK⟩,?_⟩;refine Ms (cA 7 [26] (fz:=false) (cs:=[.d (aI (26+(opP a q).1)),.d (.str []),.d (aI 0),.ow 26 0 2]) (ds:=[aI (26+(opP a q).1),.str [],aI 0,.sl [n.d,(x (opP a q).2).1.d]]) bB bB bB (by simp[bI.mut])) ?_;simp;refine On.mk ⟨f-1,.mk (26+(opP a q).1) [] 0 [n,(x (opP a q).2).1],(x (opP a q).2).2⟩ (aA i [0,1,2,6,7] [(0,0),(6,6),(7,7)]) ?_ ?_
   .have o:=c.le (opP a q).2 aE j.2;have u:=b.1;have v:=b.2.2.1;refine⟨?_,o.2,?_,?_⟩
    .show(x (opP a q).2).2.l.length<f-1;omega
    .show(x (opP a q).2).2.l.length<=p.l.length;omega
    .rw[b.2.2.2];exact Vw b.1 d h
   .have o:=c.le (opP a q).2 aE j.2;show(x (opP a q).2).2.l.length<q.l.length;omega
 .apply bP;simp;apply aD;simp;apply aH;simp;have e:chainP a x p=(n,q):=by rw[b.2.2.2];exact RW b.1 d
  exact aA i [0] [(0,0)] (by simp[e]) (by simp[e])
theorem Kg{ex:PS->Nd×PS}{p:PS}(h:p.is [40]=true):factP ex p=((ex (p.took [40])).1,(ex (p.took [40])).2.need [41]):=by
 rw[dL h];unfold factP;rw[if_pos h]
theorem Na{ex:PS->Nd×PS}{p:PS}(b:p.is [40]=false)(a:p.is sKind=true):factP ex p=(.mk 36 [] 0 [],p.took sKind):=by
 rw[dL a];unfold factP;rw[if_neg (by simp[b]),if_pos a]
theorem Kh{ex:PS->Nd×PS}{p:PS}(b:p.is [40]=false)(d:p.is sKind=false)(f:¬p.peek=[])(a:digitB (p.peek[0]?.getD 0)=true):factP ex p=(.mk 32 [] (numeralP 32 p).1 [],(numeralP 32 p).2):=by
 unfold factP;rw[if_neg (by simp[b]),if_neg (by simp[d])];cases e:p.peek with
 |nil=>exact absurd e f
 |cons c r=>
  rw[e]at a;have a:digitB c=true:=a;simp only[a,if_true]
theorem Ki{ex:PS->Nd×PS}{p:PS}(d:p.is [40]=false)(f:p.is sKind=false)(b:¬p.peek=[]->digitB (p.peek[0]?.getD 0)=false)(a:p.peek.take 1=[36]):factP ex p=(.mk 33 (localP p).1 0 [],(localP p).2):=by
 unfold factP;rw[if_neg (by simp[d]),if_neg (by simp[f])];cases e:p.peek with
 |nil=>rw[e]at a;cases a
 |cons c r=>
  rw[e]at b a;have b:digitB c=false:=b bB;have a:c=36:=by simpa using a
  simp[a];decide
theorem Kj{ex:PS->Nd×PS}{p:PS}(d:p.is [40]=false)(f:p.is sKind=false)(a:¬p.peek=[]->digitB (p.peek[0]?.getD 0)=false)(b:¬p.peek.take 1=[36]):factP ex p=placeP p:=by
 unfold factP;rw[if_neg (by simp[d]),if_neg (by simp[f])];cases e:p.peek with
 |nil=>rfl
 |cons c r=>
  rw[e]at a b;have a:digitB c=false:=a bB;have b:¬c=36:=by simpa using b
  simp[a,b]
theorem Yr(p:PS)(n:Nat)(a:PS->Nd×PS)(u:mT n 285 a)(z:p.l.length<n+1)(f:cF p.l):mE prog 363 [.bx 0 0] (dW p) (dW (factP a p).2) (.d (factP a p).1.d):=by
 unfold dW;refine lA func363 rfl ntmps363 results363 λA X i=>?_;apply aD;simp;refine dH (oh 6 (dW p) (.d (.str p.peek))) ?_;simp;refine⟨mJ p,?_⟩;apply eG;refine dH (oh 9 (dW (p.took [40])) (.d (.bool (p.is [40])))) ?_;simp;refine⟨jV p [40],?_⟩;apply aM;simp;refine⟨λb=>?_,λb=>?_⟩
 .apply aF;have w:=iD b;rw[<-dL b]at w;have y:=u.ok (p.took [40]) aE (eK f);refine bG (oh 11 (dW (a (p.took [40])).2) (.d (a (p.took [40])).1.d)) ?_;simp;refine⟨by simpa using y,?_⟩;apply aF;have k:=kU (a (p.took [40])).2 [41];refine bG (oh 13 (dW ((a (p.took [40])).2.need [41])) (.tup [])) ?_;simp;refine⟨k,?_⟩;apply aD;simp;apply aH;simp;have e:=Kg (ex:=a) b;exact aA i [0] [(0,0)] (by simp[e]) (by simp[e])
 .have q:p.took [40]=p:=qW (by simp[b]);simp only[q];refine dH (oh 17 (dW (p.took [107,105,110,100])) (.d (.bool (p.is [107,105,110,100])))) ?_;simp;refine⟨jV p [107,105,110,100],?_⟩;apply aM;simp;refine⟨λd=>?_,λd=>?_⟩
  .apply aD;simp;apply aH;simp;have e:=Na (ex:=a) b d;refine cO (x:=(factP a p).1.d) (by simp[e]) ?_;simp;exact aA i [0] [(0,0)] (hH:=by simp[e,sKind])
  .have r:p.took [107,105,110,100]=p:=qW (by simp[d]);simp only[r];apply aF;have v:=wF (p.peek[0]?.getD 0);refine bG (og 25 (.plain ⟨.d (.bool (digitB (p.peek[0]?.getD 0))),true⟩)) ?_;simp;refine⟨⟨λh=>C1.2 h,λ_=>v⟩,?_⟩;apply aM;simp;refine⟨λs t=>?_,λg=>?_⟩
   .apply aF;have l:=qY p 32 f bK;refine bG (oh 28 (dW (numeralP 32 p).2) (.d (aI (numeralP 32 p).1))) ?_;simp;refine⟨l,?_⟩;apply aH;simp;have e:=Kh (ex:=a) b d s t;refine cO (x:=(factP a p).1.d) (by simp[e]) ?_;simp;exact aA i [0] [(0,0)] (hH:=by simp[e])
   .apply aF;have m:=pR p.peek [36] (by have:=rO f;omega) bK;refine bG (og 32 (.plain ⟨.d (.bool (decide (p.peek.take 1=[36]))),true⟩)) ?_;simp;refine⟨m,?_⟩;apply aM;simp;refine⟨λc=>?_,λc=>?_⟩
    .apply aF;have j:=Bb p f;refine bG (oh 34 (dW (localP p).2) (.d (.str (localP p).1))) ?_;simp;refine⟨j,?_⟩;apply aH;simp;have e:=Ki (ex:=a) b d g c;refine cO (x:=(factP a p).1.d) (by simp[e]) ?_;simp;exact aA i [0] [(0,0)] (hH:=by simp[e])
    .apply aG;simp;apply aF;have o:=Ke p f;refine bG (oh 37 (dW (placeP p).2) (.d (placeP p).1.d)) ?_;simp;refine⟨by simpa using o,?_⟩;apply aH;simp;have e:=Kj (ex:=a) b d g c;exact aA i [0] [(0,0)] (by simp[e]) (by simp[e])
theorem Rt.le{n:Nat}{a:Int->Bool}{x:PS->Nd×PS}(h:Rt n a x)(q:PS)(c:q.l.length<n)(b:cF q.l):(x q).2.l.length<=q.l.length/\cF (x q).2.l:=⟨(h q c b).1,(h q c b).2.1⟩
theorem mT.fact{n:Nat}{a:PS->Nd×PS}(d:mT n 285 a)(e:Rt n isExprK a):mT (n+1) 363 (factP a):=
 ⟨λq c b=>Yr q n a d c b,λq c b=>(En e).le q c b⟩
theorem Ys(p:PS)(n:Nat)(a:PS->Nd×PS)(b:mT n 285 a)(c:Rt n isExprK a)(f:p.l.length<n+1)(e:cF p.l):mE prog 344 [.bx 0 0] (dW p) (dW (prodP a p).2) (.d (prodP a p).1.d):=by
 unfold dW;refine lA func344 rfl ntmps344 results344 λh X g=>?_;apply aD;simp;apply aF;have d:=Kf p 3 (factP a) 363 (n+1) (b.fact c) f e;refine bG (oh 6 (dW (prodP a p).2) (.d (prodP a p).1.d)) ?_;simp;refine⟨by simpa [prodP]using d,?_⟩;apply aH;simp;exact aA g [0] [(0,0)]
theorem mT.prod{n:Nat}{a:PS->Nd×PS}(e:mT n 285 a)(d:Rt n isExprK a):mT (n+1) 344 (prodP a):=
 ⟨λq c b=>Ys q n a e d c b,λq c b=>(BE (En d)).le q c b⟩
theorem Vx(p:PS)(n:Nat)(a:PS->Nd×PS)(b:mT n 285 a)(c:Rt n isExprK a)(f:p.l.length<n+1)(e:cF p.l):mE prog 318 [.bx 0 0] (dW p) (dW (sumP a p).2) (.d (sumP a p).1.d):=by
 unfold dW;refine lA func318 rfl ntmps318 results318 λh X g=>?_;apply aD;simp;apply aF;have d:=Kf p 2 (prodP a) 344 (n+1) (b.prod c) f e;refine bG (oh 6 (dW (sumP a p).2) (.d (sumP a p).1.d)) ?_;simp;refine⟨by simpa [sumP]using d,?_⟩;apply aH;simp;exact aA g [0] [(0,0)]
theorem GL{a:PS->Nd×PS}{p:PS}(h:0<=(opP 1 (sumP a p).2).1):exprB a p=(.mk (26+(opP 1 (sumP a p).2).1) [] 0 [(sumP a p).1,(sumP a (opP 1 (sumP a p).2).2).1],(sumP a (opP 1 (sumP a p).2).2).2):=by
 unfold exprB;simp only[];rw[if_pos h]
theorem GM{a:PS->Nd×PS}{p:PS}(h:(opP 1 (sumP a p).2).1<0):exprB a p=((sumP a p).1,(opP 1 (sumP a p).2).2):=by
 unfold exprB;simp only[];rw[if_neg aE]
theorem Nb(p:PS)(n:Nat)(a:PS->Nd×PS)(h:mT n 285 a)(c:Rt n isExprK a)(j:p.l.length<n+1)(i:cF p.l):mE prog 285 [.bx 0 0] (dW p) (dW (exprB a p).2) (.d (exprB a p).1.d):=by
 unfold dW;refine lA func285 rfl ntmps285 results285 λq X k=>?_;apply aD;simp;apply aF;have l:=Vx p n a h c j i;have f:=(HT c).le p j i;refine bG (oh 6 (dW (sumP a p).2) (.d (sumP a p).1.d)) ?_;simp;refine⟨by simpa using l,?_⟩;apply fE;have m:=Bf (sumP a p).2 1;refine bG (oh 8 (dW (opP 1 (sumP a p).2).2) (.d (aI (opP 1 (sumP a p).2).1))) ?_;simp;refine⟨m,?_⟩;apply bE;simp;refine⟨λb=>?_,λb=>?_⟩
 .apply aF;have o:=Dl b;have g:=yD (lv:=1) f.2;have d:=Vx (opP 1 (sumP a p).2).2 n a h c aE g.2;refine fF.rd [[0,16],[0,16],[0]] [[],[],[],[],[0],[16],[],[2]] (oh 15 (dW (sumP a (opP 1 (sumP a p).2).2).2) (.d (sumP a (opP 1 (sumP a p).2).2).1.d)) ?_;simp;refine⟨⟨⟨⟨aE,aE⟩,by simpa using d⟩,bK⟩,?_⟩;apply aH;simp;have e:=GL b;refine cO (x:=(exprB a p).1.d) (by simp[e]) ?_;simp;exact aA k [0] [(0,0)] (hH:=by simp[e])
 .apply aG;simp;apply aD;simp;apply aH;simp;have e:=GM b;exact aA k [0] [(0,0)] (by simp[e]) (by simp[e])
theorem EJ:∀n:Nat,mT n 285 (exprP false n)
 |0=>⟨λq h _=>absurd h (A9 _),λq h _=>absurd h (A9 _)⟩
 |n+1=>by
  have e:∀q,exprP false (n+1) q=exprB (exprP false n) q:=λq=>by rw[exprP,if_neg bB]
  refine⟨λq b a=>?_,λq b a=>(AN (n+1)).le q b a⟩;rw[e];exact Nb q n (exprP false n) (EJ n) (AN n) b a
theorem BU{c:Prop}[Decidable c]{f:Nat->bI}{A:bI}{x:Nat}(h:f 0=A):cD f (if c then [(0,A)]else []) x=f x:=by
 by_cases a:c
 .rw[if_pos a];subst h;simp only[cD,cP];split
  .rename_i e;rw[e]
  .rfl
 .rw[if_neg a];rfl
def aAd(n:Nat)(x:PS->Nd×PS):Prop:=∀q:PS,q.l.length<n->cF q.l->q.e=0->(x q).2.e≠0\/(x q).2.l.length<q.l.length
structure BlS where
 f:Nat
 ks:List Nd
 q:PS
theorem RX{b:PS->Nd×PS}{a:List Nd}{q:PS}(h:q.e=0->q.peek=[125]):∀f,stmtsF b f a q=(a,q)
 |0=>rfl
 |f+1=>by
  rw[stmtsF,if_pos];by_cases e:q.e=0
  .exact .inr (h e)
  .exact .inl e
theorem Vy{a:PS->Nd×PS}{b:List Nd}{q:PS}{f:Nat}(d:q.l.length<f)(h:q.e=0)(c:¬q.peek=[125]):stmtsF a f b q=stmtsF a (f-1) (b++[(a q).1]) (a q).2:=by
 obtain⟨k,rfl⟩:∃k,f=k+1:=⟨f-1,aE⟩;rw[stmtsF,if_neg]
 .rfl
 .rintro(e|e)
  .exact e h
  .exact c e
theorem Kk(p:PS)(n:Nat)(a:PS->Nd×PS)(r:mT n 235 a)(u:aAd n a)(C:p.l.length<n)(v:cF p.l)(A:p.l.length<=1100000):mE prog 160 [.bx 0 0] (dW p) (dW (blockB a p).2) (.d (blockB a p).1.d):=by
 unfold dW;refine lA func160 rfl ntmps160 results160 λD X m=>?_;apply aD;simp;apply aD;simp;refine kY (fz:=false) (cs:=[.d (aI 8),.d (.str []),.d (aI 0),.nl]) 3 3 1022 4 bK ⟨bB,bB,bB,?_⟩;simp;apply aF;have k:=kU p [123];have gl:=cJ (s:=[123]) v;refine bG (oh 6 (dW (p.need [123])) (.tup [])) ?_;simp;refine⟨k,?_⟩;apply eG;refine aZ (ι:=BlS) (λ⟨f,c,q⟩=>bA [(0,.bx 0 0),(2,.bx 2 0),(3,.bx 3 0)]) (λ⟨f,c,q⟩=>aK [(0,.box false [.d (mS q.l),.d (aI q.e)]),(2,.box false [.d (aI 0),.d (.str []),.d (aI 0),.nl]),(3,.box false [.d (aI 8),.d (.str []),.d (aI 0),.ow 1022 0 c.length]),(1022,.row false 4 (c.map Nd.d))]) (λ⟨f,c,q⟩=>(q.e=0->q.l.length<f)/\cF q.l/\q.l.length<=p.l.length/\c.length+q.l.length<=p.l.length+(if q.e=0 then 0 else 1)/\stmtsF a ((p.need [123]).l.length+1) [] (p.need [123])=stmtsF a f c q) (λ⟨f,c,q⟩=>2*q.l.length+(if q.e=0 then 1 else 0)) ⟨(p.need [123]).l.length+1,[],p.need [123]⟩ (aA m [0,2,3] [(0,0),(2,2),(3,3),(1022,1022)]) (⟨λ_=>A5 _,gl.2,gl.1,by have:=gl.1;simp only[A2];omega,rfl⟩) λ⟨f,c,q⟩ b=>?_;apply fE;have o:=mJ q;refine bG (oh 14 (dW q) (.d (.str q.peek))) ?_;simp[BU];refine⟨λ_=>o,?_⟩;apply aM;simp;refine⟨λi t=>?_,λg=>?_⟩
 .apply aG;simp;apply aW;have y:q.l.length<=p.l.length:=b.2.2.1;have B:c.length+q.l.length<=p.l.length:=by have z:=b.2.2.2.1;simp only[i,if_true]at z;omega
  have w:=r.ok q aE b.2.1;have j:=r.le q aE b.2.1;have d:=u q aE b.2.1 i;refine fF.rd [[0,21],[0,21]] [[],[],[],[0],[21],[22,1022],[],[3]] (oh 20 (dW (a q).2) (.d (a q).1.d)) ?_;simp;refine⟨⟨by simpa using w,aE,aE⟩,?_⟩;refine On.mk ⟨f-1,c++[(a q).1],(a q).2⟩ (aA m [0,2,3] [(0,0),(2,2),(3,3),(22,1022)]) ?_ ?_
  .refine⟨λe=>?_,j.2,?_,?_,?_⟩
   .show(a q).2.l.length<f-1;have z:=b.1 i;rcases d with h|h
    .exact absurd e h
    .omega
   .show(a q).2.l.length<=p.l.length;omega
   .show(c++[(a q).1]).length+(a q).2.l.length<=p.l.length+(if(a q).2.e=0 then 0 else 1);rw[B0,B1];by_cases e:(a q).2.e=0
    .rw[if_pos e];rcases d with h|h
     .exact absurd e h
     .omega
    .rw[if_neg e];omega
   .rw[b.2.2.2.2];exact Vy (b.1 i) i t
  .show 2*(a q).2.l.length+(if(a q).2.e=0 then 1 else 0)<2*q.l.length+(if q.e=0 then 1 else 0);rw[if_pos i];by_cases e:(a q).2.e=0
   .rw[if_pos e];rcases d with h|h
    .exact absurd e h
    .omega
   .rw[if_neg e];omega
 .apply bP;simp;apply aF;have l:=kU q [125];refine bG (oh 25 (dW (q.need [125])) (.tup [])) ?_;simp;refine⟨l,?_⟩;apply aD;simp;apply aH;simp;have e:blockB a p=(.mk 8 [] 0 c,q.need [125]):=by unfold blockB;simp only[];rw[b.2.2.2.2,RX g]
  refine cO (x:=(blockB a p).1.d) (by simp[e]) ?_;simp;exact aA m [0] [(0,0)] (hH:=by simp[e])
def qZ(k:Int)(p:PS):bC×PS:=if k=19\/k=20 then localP p else if k=21\/k=25\/k=24 then([],p)else nameP p
theorem yR{k:Int}{p:PS}(h:cF p.l):(qZ k p).2.l.length<=p.l.length/\cF (qZ k p).2.l:=by
 unfold qZ;split
 .exact⟨(gD h).1,(gD h).2.1⟩
 .split
  .exact⟨B2 _,h⟩
  .exact⟨(dZ h).1,(dZ h).2.1⟩
theorem Vz{ex:PS->Nd×PS}{k:Int}{p:PS}(h:k=15\/k=22\/k=24):cmdP ex k p=(.mk k (qZ k p).1 0 [(ex (qZ k p).2).1],(ex (qZ k p).2).2):=by
 unfold cmdP;simp only[];rw[if_pos h];rfl
theorem PV{ex:PS->Nd×PS}{k:Int}{p:PS}(a:¬(k=15\/k=22\/k=24))(h:k=16\/k=23):cmdP ex k p=(.mk k (qZ k p).1 0 [.mk 33 (localP (qZ k p).2).1 0 []],(localP (qZ k p).2).2):=by
 unfold cmdP;simp only[];rw[if_neg a,if_pos h];rfl
theorem PW{ex:PS->Nd×PS}{k:Int}{p:PS}(a:¬(k=15\/k=22\/k=24))(b:¬(k=16\/k=23))(h:k=19\/k=21\/k=25):cmdP ex k p=(.mk k (qZ k p).1 (numeralP k (qZ k p).2).1 [],(numeralP k (qZ k p).2).2):=by
 unfold cmdP;simp only[];rw[if_neg a,if_neg b,if_pos h];rfl
theorem GN{ex:PS->Nd×PS}{k:Int}{p:PS}(a:¬(k=15\/k=22\/k=24))(b:¬(k=16\/k=23))(h:¬(k=19\/k=21\/k=25)):cmdP ex k p=(.mk k (qZ k p).1 0 [],(qZ k p).2):=by
 unfold cmdP;simp only[];rw[if_neg a,if_neg b,if_neg h];rfl
def cdH(p:PS)(x:Nd):List (Nat×bI):=[(0,.box false [.d (mS p.l),.d (aI p.e)]),(1,.box false [.d (aI x.kind),.d (.str x.text),.d (aI x.n),.d (ndsD x.kids)])]
structure SPS where
 s:bC
 q:PS
theorem Nc(p:PS)(n:Nat)(f:PS->Nd×PS)(k:Int)(M:0<=k/\k<37)(L:mT n 285 f)(O:p.l.length<n)(B:cF p.l):mE prog 286 [.bx 0 0,.bx 1 0] [(0,.box false [.d (mS p.l),.d (aI p.e)]),(1,.box false [.d (aI k),.d (.str []),.d (aI 0),.nl])] (cdH (cmdP f k p).2 (cmdP f k p).1) (.tup []):=by
 unfold cdH;refine pD func286 rfl ntmps286 results286 λP X a=>?_;refine bH (ι:=SPS) (λ⟨s,q⟩=>bA [(0,.bx 0 0),(1,.bx 1 0)]) (λ⟨s,q⟩=>aK [(0,.box false [.d (mS q.l),.d (aI q.e)]),(1,.box false [.d (aI k),.d (.str s),.d (aI 0),.nl])]) (λ⟨s,q⟩=>qZ k p=(s,q)) ?_ λ⟨s,q⟩ c=>?_
 .apply aD;simp;apply aW;refine bH (ι:=BC) (λ⟨b⟩=>bA [(0,.bx 0 0),(1,.bx 1 0),(7,.d (aI k)),(13,.d (.bool b))]) (λ⟨b⟩=>aK [(0,.box false [.d (mS p.l),.d (aI p.e)]),(1,.box false [.d (aI k),.d (.str []),.d (aI 0),.nl])]) (λ⟨b⟩=>b=true↔(k=19\/k=20)) ?_ λ⟨b⟩ A=>?_
  .apply bE;simp;refine⟨λH=>?_,λH=>?_⟩
   .apply aG;simp;refine XV.mk ⟨decide (k=19)⟩ (aA a [0,1,7,13] [(0,0),(1,1)]) ?_;simp[H]
   .apply aJ;simp;refine XV.mk ⟨decide (k=20)⟩ (aA a [0,1,7,13] [(0,0),(1,1)]) ?_;simp only[decide_eq_true_eq];omega
  .apply aM;simp;refine⟨λE=>?_,λE=>?_⟩
   .have C:=A.1 E;have t:=Bb p B;refine bG (oh 18 (dW (localP p).2) (.d (.str (localP p).1))) ?_;simp;refine⟨t,?_⟩;refine XV.mk ⟨(localP p).1,(localP p).2⟩ (aA a [0,1] [(0,0),(1,1)]) ?_;unfold qZ;rw[if_pos C]
   .have C:¬(k=19\/k=20):=λq=>by simp[A.2 q]at E
    refine bH (ι:=BC) (λ⟨b⟩=>bA [(0,.bx 0 0),(1,.bx 1 0),(7,.d (aI k)),(21,.d (.bool b))]) (λ⟨b⟩=>aK [(0,.box false [.d (mS p.l),.d (aI p.e)]),(1,.box false [.d (aI k),.d (.str []),.d (aI 0),.nl])]) (λ⟨b⟩=>b=true↔(k=21\/k=25\/k=24)) ?_ λ⟨b⟩ z=>?_
    .apply bE;simp;refine⟨λI=>?_,λI=>?_⟩
     .apply aG;simp;refine XV.mk ⟨decide (k=21)⟩ (aA a [0,1,7,21] [(0,0),(1,1)]) ?_;simp[I]
     .apply bE;simp;refine⟨λJ=>?_,λJ=>?_⟩
      .apply aG;simp;refine XV.mk ⟨decide (k=25)⟩ (aA a [0,1,7,21] [(0,0),(1,1)]) ?_;simp[J]
      .apply aJ;simp;refine XV.mk ⟨decide (k=24)⟩ (aA a [0,1,7,21] [(0,0),(1,1)]) ?_;simp only[decide_eq_true_eq];omega
    .apply aM;simp;refine⟨λD=>?_,λD=>?_⟩
     .have q1:=z.1 D;apply aG;simp;refine XV.mk ⟨[],p⟩ (aA a [0,1] [(0,0),(1,1)]) ?_;unfold qZ;rw[if_neg C,if_pos q1]
     .have q1:¬(k=21\/k=25\/k=24):=λq=>by simp[z.2 q]at D
      have F:=Ba p;refine bG (oh 10 (dW (nameP p).2) (.d (.str (nameP p).1))) ?_;simp;refine⟨F,?_⟩;refine XV.mk ⟨(nameP p).1,(nameP p).2⟩ (aA a [0,1] [(0,0),(1,1)]) ?_;unfold qZ;rw[if_neg C,if_neg q1]
 .apply aD;simp;apply aW;refine bH (ι:=BC) (λ⟨b⟩=>bA [(0,.bx 0 0),(1,.bx 1 0),(28,.d (aI k)),(29,.d (.bool b))]) (λ⟨b⟩=>aK [(0,.box false [.d (mS q.l),.d (aI q.e)]),(1,.box false [.d (aI k),.d (.str s),.d (aI 0),.nl])]) (λ⟨b⟩=>b=true↔(k=15\/k=22\/k=24)) ?_ λ⟨b⟩ i=>?_
  .apply bE;simp;refine⟨λK=>?_,λK=>?_⟩
   .apply aG;simp;refine XV.mk ⟨decide (k=15)⟩ (aA a [0,1,28,29] [(0,0),(1,1)]) ?_;simp[K]
   .apply bE;simp;refine⟨λv=>?_,λv=>?_⟩
    .apply aG;simp;refine XV.mk ⟨decide (k=22)⟩ (aA a [0,1,28,29] [(0,0),(1,1)]) ?_;simp[v]
    .apply aJ;simp;refine XV.mk ⟨decide (k=24)⟩ (aA a [0,1,28,29] [(0,0),(1,1)]) ?_;simp only[decide_eq_true_eq];omega
  .apply aM;simp;refine⟨λm=>?_,λm=>?_⟩
   .have d:=i.1 m;have g:=yR (k:=k) B;rw[c]at g;have N:=L.ok q (by have:=g.1;simp only at this;omega) g.2;refine bG (oh 35 (dW (f q).2) (.d (f q).1.d)) ?_;simp;refine⟨by simpa using N,?_⟩;have e:=Vz (ex:=f) (p:=p) d;rw[c]at e;refine iH.trans (cA 1 [36] (fz:=false) (cs:=[.d (aI k),.d (.str s),.d (aI 0),.ow 36 0 1]) (ds:=[aI k,.str s,aI 0,.sl [(f q).1.d]]) bB bB bB (by simp[bI.mut])) ?_;simp;exact aA a [] [(0,0),(1,1)] (hH:=by simp[e])
   .have d:¬(k=15\/k=22\/k=24):=λq=>by simp[i.2 q]at m
    refine bH (ι:=BC) (λ⟨b⟩=>bA [(0,.bx 0 0),(1,.bx 1 0),(28,.d (aI k)),(39,.d (.bool b))]) (λ⟨b⟩=>aK [(0,.box false [.d (mS q.l),.d (aI q.e)]),(1,.box false [.d (aI k),.d (.str s),.d (aI 0),.nl])]) (λ⟨b⟩=>b=true↔(k=16\/k=23)) ?_ λ⟨b⟩ j=>?_
    .apply bE;simp;refine⟨λw=>?_,λw=>?_⟩
     .apply aG;simp;refine XV.mk ⟨decide (k=16)⟩ (aA a [0,1,28,39] [(0,0),(1,1)]) ?_;simp[w]
     .apply aJ;simp;refine XV.mk ⟨decide (k=23)⟩ (aA a [0,1,28,39] [(0,0),(1,1)]) ?_;simp only[decide_eq_true_eq];omega
    .apply aM;simp;refine⟨λo=>?_,λo=>?_⟩
     .have h:=j.1 o;have g:=yR (k:=k) B;rw[c]at g;have t:=Bb q g.2;refine bG (oh 44 (dW (localP q).2) (.d (.str (localP q).1))) ?_;simp;refine⟨t,?_⟩;have e:=PV (ex:=f) (p:=p) d h;rw[c]at e;refine iH.trans (cA 1 [46] (fz:=false) (cs:=[.d (aI k),.d (.str s),.d (aI 0),.ow 46 0 1]) (ds:=[aI k,.str s,aI 0,.sl [(Nd.mk 33 (localP q).1 0 []).d]]) bB bB bB (by simp[bI.mut])) ?_;simp;exact aA a [] [(0,0),(1,1)] (hH:=by simp[e])
     .have h:¬(k=16\/k=23):=λq=>by simp[j.2 q]at o
      refine bH (ι:=BC) (λ⟨b⟩=>bA [(0,.bx 0 0),(1,.bx 1 0),(28,.d (aI k)),(49,.d (.bool b))]) (λ⟨b⟩=>aK [(0,.box false [.d (mS q.l),.d (aI q.e)]),(1,.box false [.d (aI k),.d (.str s),.d (aI 0),.nl])]) (λ⟨b⟩=>b=true↔(k=19\/k=21\/k=25)) ?_ λ⟨b⟩ l=>?_
      .apply bE;simp;refine⟨λx=>?_,λx=>?_⟩
       .apply aG;simp;refine XV.mk ⟨decide (k=19)⟩ (aA a [0,1,28,49] [(0,0),(1,1)]) ?_;simp[x]
       .apply bE;simp;refine⟨λy=>?_,λy=>?_⟩
        .apply aG;simp;refine XV.mk ⟨decide (k=21)⟩ (aA a [0,1,28,49] [(0,0),(1,1)]) ?_;simp[y]
        .apply aJ;simp;refine XV.mk ⟨decide (k=25)⟩ (aA a [0,1,28,49] [(0,0),(1,1)]) ?_;simp only[decide_eq_true_eq];omega
      .apply aM;simp;refine⟨λr=>?_,λr=>?_⟩
       .have u:=l.1 r;have g:=yR (k:=k) B;rw[c]at g;have G:=qY q k g.2 M;refine bG (oh 59 (dW (numeralP k q).2) (.d (aI (numeralP k q).1))) ?_;simp;refine⟨G,?_⟩;have e:=PW (ex:=f) (p:=p) d h u;rw[c]at e;refine iH.trans (cA 1 [] (fz:=false) (cs:=[.d (aI k),.d (.str s),.d (aI (numeralP k q).1),.nl]) (ds:=[aI k,.str s,aI (numeralP k q).1,.sl []]) bB bB bB (by simp[bI.mut])) ?_;simp;exact aA a [] [(0,0),(1,1)] (hH:=by simp[e])
       .have u:¬(k=19\/k=21\/k=25):=λq=>by simp[l.2 q]at r
        apply aG;simp;have e:=GN (ex:=f) (p:=p) d h u;rw[c]at e;refine iH.trans (cA 1 [] (fz:=false) (cs:=[.d (aI k),.d (.str s),.d (aI 0),.nl]) (ds:=[aI k,.str s,aI 0,.sl []]) bB bB bB (by simp[bI.mut])) ?_;simp;exact aA a [] [(0,0),(1,1)] (hH:=by simp[e])
end
theorem Ai{α:Type}(q:α->Bool)(d:α):∀l:List α,(C8 l.length).find? (λi=>q (l.getD i d))=l.findIdx? q
 |[]=>rfl
 |x::l=>by
  have a:=Ai q d l;rw[A4,List.range_succ_eq_map,C7,C3];have e:(x::l).getD 0 d=x:=rfl;rw[e];cases h:q x with
  |true=>simp
  |false=>
   simp only[List.find?_map];rw[<-a];rfl
theorem Yt{s:bC}(h:¬s=[]):kindP s=pE (λx=>decide (s=x)) wordsL:=by
 unfold kindP wordI pE;rw[if_neg h];have e:=Ai (λx=>decide (s=x)) [] wordsL;rw[show wordsL.length=26 from rfl]at e;rw[<-e];have a:(λi=>decide (wordsL.getD i []=s))=λi=>decide (s=wordsL.getD i []):=by funext i;rw[decide_eq_decide];exact eq_comm
 rw[a];rfl
theorem Kl{s:bC}(h:s=[]):kindP s= -1:=by unfold kindP;rw[if_pos h]
theorem mK{p:PS}(h:0<=kindP p.peek):p.is p.peek=true:=nQ.2 ⟨λe=>by rw[Kl e]at h;omega,rfl⟩
theorem Il{ex bl:PS->Nd×PS}{p:PS}{k:Int}(b:kindP p.peek=k)(h:k=11)(a:(bl (ex (p.took p.peek)).2).2.is sElse=true):
 stmtB ex bl p=(.mk k [] 0 [(ex (p.took p.peek)).1,(bl (ex (p.took p.peek)).2).1,(bl ((bl (ex (p.took p.peek)).2).2.took sElse)).1],(bl ((bl (ex (p.took p.peek)).2).2.took sElse)).2):=by
 subst b;rw[dL a];rw[dL (mK aE)]at a|-;unfold stmtB;simp only[];rw[if_pos aE,if_pos ⟨h,a⟩]
theorem VA{ex bl:PS->Nd×PS}{p:PS}{k:Int}(b:kindP p.peek=k)(h:k=11\/k=12)(a:k=11->(bl (ex (p.took p.peek)).2).2.is sElse=false):
 stmtB ex bl p=(.mk k [] 0 [(ex (p.took p.peek)).1,(bl (ex (p.took p.peek)).2).1],(bl (ex (p.took p.peek)).2).2):=by
 subst b;rw[dL (mK aE)]at a|-;unfold stmtB;simp only[];rw[if_pos h,if_neg (λq=>by rw[a q.1]at q;exact absurd q.2 bB)]
theorem Nf{a b:PS->Nd×PS}{p:PS}{k:Int}(c:kindP p.peek=k)(h:12<k):stmtB a b p=((cmdP a k (p.took p.peek)).1,(cmdP a k (p.took p.peek)).2.need [59]):=by
 subst c;rw[dL (mK aE)];unfold stmtB;simp only[];rw[if_neg aE,if_pos h]
theorem EK{a b:PS->Nd×PS}{p:PS}{k:Int}(e:kindP p.peek=k)(c:¬(k=11\/k=12))(h:¬12<k)(d:p.peek.take 1=[36]):stmtB a b p=(.mk 9 (localP p).1 0 [(a ((localP p).2.need [61])).1],(a ((localP p).2.need [61])).2.need [59]):=by
 subst e;unfold stmtB;simp only[];rw[if_neg c,if_neg h];rw[(qX d).1];rfl
theorem EL{a c:PS->Nd×PS}{p:PS}{k:Int}(f:kindP p.peek=k)(d:¬(k=11\/k=12))(h:¬12<k)(b:¬p.peek.take 1=[36]):stmtB a c p=(.mk 10 [] 0 [(placeP p).1,(a ((placeP p).2.need [61])).1],(a ((placeP p).2.need [61])).2.need [59]):=by
 subst f;unfold stmtB;simp only[];rw[if_neg d,if_neg h];split
 .rename_i r e;rw[e]at b;exact absurd rfl b
 .rfl
theorem jW{p:PS}{s:bC}:(p.need s).l.length<=p.l.length:=by
 unfold PS.need;split
 .exact eO
 .rw[qQ];exact B2 _
theorem Ng{m:Nat}{a c:PS->Nd×PS}(x:Stk a)(N:Stk c)(n:Rt (m+1) isExprK a)(w:Rt m isBlockK c):aAd (m+1) (stmtB a c):=λp M h _=>by
 by_cases l:(stmtB a c p).2.e=0
 .right;obtain⟨k,f⟩:∃k,kindP p.peek=k:=⟨_,rfl⟩;by_cases r:k=11\/k=12
  .have b:=mK (p:=p) aE;have g:=iD b;rw[<-dL b]at g;have o:=eK (s:=p.peek) h;obtain⟨v,C,_⟩:=n (p.took p.peek) aE o;obtain⟨L,A,_⟩:=w (a (p.took p.peek)).2 aE C;by_cases i:k=11/\(c (a (p.took p.peek)).2).2.is sElse=true
   .rw[Il f i.1 i.2];have E:=iD i.2;rw[<-dL i.2]at E;obtain⟨B,_,_⟩:=w ((c (a (p.took p.peek)).2).2.took sElse) aE (eK A);show(c ((c (a (p.took p.peek)).2).2.took sElse)).2.l.length<p.l.length;omega
   .rw[VA f r (λq=>by
     cases z:(c (a (p.took p.peek)).2).2.is sElse with
     |false=>rfl
     |true=>exact absurd ⟨q,z⟩ i)]
    show(c (a (p.took p.peek)).2).2.l.length<p.l.length;omega
  .by_cases t:12<k
   .have b:=mK (p:=p) aE;have g:=iD b;rw[<-dL b]at g;have o:=eK (s:=p.peek) h;obtain⟨B,_,_⟩:=PA (m:=m+1) x n (k:=k) (f▸zW (s:=p.peek) aE) (p.took p.peek) aE o;rw[Nf f t];have:=jW (p:=(cmdP a k (p.took p.peek)).2) (s:=[59]);show((cmdP a k (p.took p.peek)).2.need [59]).l.length<p.l.length;omega
   .by_cases j:p.peek.take 1=[36]
    .obtain⟨O,D⟩:=qX j;have b:p.is p.peek=true:=nQ.2 ⟨λe=>(by rw[e]at j;cases j),rfl⟩;have g:=iD b;rw[<-dL b]at g;rw[EK f r t j,D];have F:=jW (p:=p.took p.peek) (s:=[61]);obtain⟨v,_,_⟩:=n ((p.took p.peek).need [61]) aE (cJ (eK h)).2;have G:=jW (p:=(a ((p.took p.peek).need [61])).2) (s:=[59]);show((a ((p.took p.peek).need [61])).2.need [59]).l.length<p.l.length;omega
    .rw[EL f r t j]at l|-;have l:((a ((placeP p).2.need [61])).2.need [59]).e=0:=l;have u:=x _ (need_e l).2;have d:=(need_e u).2;have S:(placeP p).2.l.length<p.l.length:=by
      unfold placeP at d|-;have y:(nameP p).2.e=0->(nameP p).2.l.length<p.l.length:=λz=>by
       cases q:isNameB p.peek with
       |false=>rw[wI q]at z;exact absurd z (fail_e bK)
       |true=>
        have b:p.is p.peek=true:=nQ.2 ⟨λe=>(by rw[e]at q;cases q),rfl⟩;have g:=iD b;rw[AZ q,dL b];simp only;omega
      have H:=dZ h;split at d
      .rename_i z;rw[if_pos z];have J:=nameP_stk _ d;have K:(nameP p).2.e=0:=J;have Q:=(dZ (p:=(nameP p).2.skip) (dP H.2.1)).1;have P:=eO (p:=(nameP p).2);have:=y K;simp only;omega
      .rename_i z;rw[if_neg z];exact y d
     have F:=jW (p:=(placeP p).2) (s:=[61]);have I:=(sV (p.l.length+1) p (A5 _) h).2.1;obtain⟨v,_,_⟩:=n ((placeP p).2.need [61]) aE (cJ I).2;have G:=jW (p:=(a ((placeP p).2.need [61])).2) (s:=[59]);show((a ((placeP p).2.need [61])).2.need [59]).l.length<p.l.length;omega
 .exact .inl l
section
attribute[local simp] aR bJ bF aO aL aX aP
attribute[local simp] kH.cond Nd.d_eq nd_t nd_dr nd_td ndsD aQ bN dK prH Bc Bd Be qQ Ij
end
section
attribute[local simp] aR bJ bF aO aL aX aP
attribute[local simp] kH.cond Nd.d_eq nd_t nd_dr nd_td ndsD aQ bN mS dW dK
theorem CE(k:IntKind)(n:Int):(Value.int k n).oneCell'=true:=rfl
theorem CF(x:ByteArray):(Value.string x).oneCell'=true:=rfl
theorem CG(x:Option Addr)(a b:Nat):(Value.slice x a b).oneCell'=true:=rfl
theorem Km(a b c d:Value):(∀(i:Nat) (x:i<4),([a,b,c,d][i]'(x)).oneCell'=true)↔(a.oneCell'=true/\b.oneCell'=true/\c.oneCell'=true/\d.oneCell'=true):=by
 constructor
 .intro h;exact⟨h 0 bK,h 1 bK,h 2 bK,h 3 bK⟩
 .rintro⟨e,f,g,j⟩ i k
  match i,k with
  |0,_=>exact e
  |1,_=>exact f
  |2,_=>exact g
  |3,_=>exact j
attribute[local simp] mF CE CF CG Km
theorem RY{c:Prop}[Decidable c]{f:Nat->bI}{a b:PS}{x:Nat}(h:f 0=.box false [.d (.sl (b.l.map Tk.d)),.d (aI b.e)]):
 cD f (if c then [(0,.box false [.d (.sl (a.l.map Tk.d)),.d (aI a.e)])]else []) x=if x=0 then .box false [.d (.sl ((if c then a else b).l.map Tk.d)),.d (aI (if c then a else b).e)]else f x:=by
 by_cases d:c
 .simp only[d,if_true,cD,cP]
 .simp only[d,if_false,cD];split
  .rename_i e;rw[e];exact h
  .rfl
structure KC where
 k:Int
structure StS where
 x:Nd
 q:PS
theorem Nh(p:PS)(n:Nat)(a c:PS->Nd×PS)(r:mT (n+1) 285 a)(y:mT n 160 c)(U:p.l.length<n+1)(l:cF p.l):mE prog 235 [.bx 0 0] (dW p) (dW (stmtB a c p).2) (.d (stmtB a c p).1.d):=by
 unfold dW;refine lA func235 rfl ntmps235 results235 λY X i=>?_;apply aD;simp;refine dH (oh 7 (dW p) (.d (.str p.peek))) ?_;simp;refine⟨mJ p,?_⟩;apply aD;simp;refine bH (ι:=KC) (λ⟨k⟩=>bA [(0,.bx 0 0),(2,.bx 2 0),(3,.d (.str p.peek)),(4,.d (aI k))]) (λ⟨k⟩=>aK [(0,.box false [.d (mS p.l),.d (aI p.e)]),(2,.box false [.d (aI 0),.d (.str []),.d (aI 0),.nl])]) (λ⟨k⟩=>kindP p.peek=k) ?_ λ⟨k⟩ d=>?_
 .apply bE;simp;refine⟨λw=>?_,λw=>?_⟩
  .have I:=sG wordsL p.peek;have q2:=nP;rw[<-Yt w]at I;refine bG (og 12 (.plain ⟨.d (aI (kindP p.peek)),true⟩)) ?_;simp[zY];refine⟨⟨aE,I⟩,?_⟩;refine XV.mk ⟨kindP p.peek⟩ (aA i [0,2,3,4] [(0,0),(2,2)]) ?_;rfl
  .apply aG;simp;refine XV.mk ⟨-1⟩ (aA i [0,2,3,4] [(0,0),(2,2)]) ?_;exact Kl w
 .apply aD;simp;refine bH (ι:=StS) (λ⟨x,q⟩=>bA [(0,.bx 0 0),(2,.bx 2 0),(5,.bx 5 0)]) (λ⟨x,q⟩=>aK [(0,.box false [.d (mS q.l),.d (aI q.e)]),(2,.box false [.d (aI 0),.d (.str []),.d (aI 0),.nl]),(5,.box false [.d (aI x.kind),.d (.str x.text),.d (aI x.n),.d (ndsD x.kids)])]) (λ⟨x,q⟩=>stmtB a c p=(x,q.need [59])) ?_ λ⟨x,q⟩ h=>?_
  .apply aW;apply bE;simp;refine⟨λg=>?_,λQ S=>?_⟩
   .apply aF;have t:=mK (p:=p) aE;have G:=iD t;rw[<-dL t]at G;have u:=eK (s:=p.peek) l;refine bG (oh 39 (dW (p.took p.peek)) (.d (.bool (p.is p.peek)))) ?_;simp;refine⟨jV p p.peek,?_⟩;refine kY (fz:=false) (cs:=[.d (aI k),.d (.str []),.d (aI 0),.nl]) 5 3 1048 4 bK ⟨bB,bB,bB,?_⟩;simp;apply aF;have N:=r.ok (p.took p.peek) aE u;have J:=r.le (p.took p.peek) aE u;have M:=y.ok (a (p.took p.peek)).2 aE J.2;have P:=y.le (a (p.took p.peek)).2 aE J.2;refine fF.rd [[0,47],[0,47],[47],[47],[0,47],[47],[0,47],[0],[],[5],[5],[0,5,47,48,1048],[5],[5],[48],[48]] [[],[],[],[0],[],[0],[],[47],[48,1048],[],[48],[],[],[48],[],[5]] (λ|43=>some (.gen ⟨[(0,0)],[],[],dW (a (p.took p.peek)).2,.d (a (p.took p.peek)).1.d⟩)|45=>some (.gen ⟨[(0,0)],[],[],dW (c (a (p.took p.peek)).2).2,.d (c (a (p.took p.peek)).2).1.d⟩)|_=>none) ?_;simp;refine⟨⟨⟨by simpa using N,by simpa using M⟩,bK⟩,?_⟩;apply fE;have O:=jV (c (a (p.took p.peek)).2).2 sElse;refine bG (oh 57 (dW ((c (a (p.took p.peek)).2).2.took sElse)) (.d (.bool ((c (a (p.took p.peek)).2).2.is sElse)))) ?_;simp[RY (b:=(c (a (p.took p.peek)).2).2)];refine⟨λ_=>O,?_⟩;apply aM;simp;refine⟨λm H=>?_,λm=>?_⟩
    .simp only[m,if_true];have L:=eK (s:=sElse) P.2;have W:((c (a (p.took p.peek)).2).2.took sElse).l.length<=(c (a (p.took p.peek)).2).2.l.length:=by rw[dL H];exact eO
     have A:=y.ok ((c (a (p.took p.peek)).2).2.took sElse) aE L;refine fF.rd [[0,64],[0,64],[64],[64],[0,64],[0],[],[5],[5],[65],[65]] [[],[],[],[0],[],[64],[65,48],[],[65],[],[5]] (oh 62 (dW (c ((c (a (p.took p.peek)).2).2.took sElse)).2) (.d (c ((c (a (p.took p.peek)).2).2.took sElse)).1.d)) ?_;simp;refine⟨by simpa using A,?_⟩;apply aD;simp;apply aH;simp;have e:=Il (ex:=a) (bl:=c) d m H;refine cO (x:=(stmtB a c p).1.d) (by simp[e,m]) ?_;simp;exact aA i [0] [(0,0)] (hH:=by simp[e])
    .have K:(if k=11 then(c (a (p.took p.peek)).2).2.took sElse else(c (a (p.took p.peek)).2).2)=(c (a (p.took p.peek)).2).2:=by
      split
      .rename_i z;exact qW (by simp[m z])
      .rfl
     simp only[K];apply aG;simp;apply aD;simp;apply aH;simp;have e:=VA (ex:=a) (bl:=c) d g m;refine cO (x:=(stmtB a c p).1.d) (by simp[e]) ?_;simp;exact aA i [0] [(0,0)] (hH:=by simp[e])
   .apply bE;simp;refine⟨λo=>?_,λo=>?_⟩
    .apply aF;have t:=mK (p:=p) (by have:=d;simp only at this;omega);have G:=iD t;rw[<-dL t]at G;have u:=eK (s:=p.peek) l;refine bG (oh 74 (dW (p.took p.peek)) (.d (.bool (p.is p.peek)))) ?_;simp;refine⟨jV p p.peek,?_⟩;have V:=zW (s:=p.peek) (by have:=d;simp only at this;omega);have B:=Nc (p.took p.peek) (n+1) a k (by have:=d;simp only at this;omega) r aE u;refine bG (og 76 (.gen ⟨[(0,0),(5,1)],[],[],cdH (cmdP a k (p.took p.peek)).2 (cmdP a k (p.took p.peek)).1,.tup []⟩)) ?_;simp[cdH];refine⟨by simpa [cdH]using B,?_⟩;refine XV.mk ⟨(cmdP a k (p.took p.peek)).1,(cmdP a k (p.took p.peek)).2⟩ (aA i [0,2,5] [(0,0),(2,2),(5,5)]) ?_;exact Nf d o
    .apply aF;have D:=pR p.peek [36] (by have:=rO l;omega) bK;refine bG (og 79 (.plain ⟨.d (.bool (decide (p.peek.take 1=[36]))),true⟩)) ?_;simp;refine⟨D,?_⟩;apply aM;simp;refine⟨λj=>?_,λj=>?_⟩
     .apply aF;have C:=Bb p l;have gl:=gD l;refine bG (oh 81 (dW (localP p).2) (.d (.str (localP p).1))) ?_;simp;refine⟨C,?_⟩;apply aF;have f:=kU (localP p).2 [61];have v:=cJ (s:=[61]) gl.2.1;refine bG (oh 84 (dW ((localP p).2.need [61])) (.tup [])) ?_;simp;refine⟨f,?_⟩;have F:=r.ok ((localP p).2.need [61]) (by have:=gl.1;omega) v.2;refine bG (oh 86 (dW (a ((localP p).2.need [61])).2) (.d (a ((localP p).2.need [61])).1.d)) ?_;simp;refine⟨by simpa using F,?_⟩;refine iC (cA 5 [87] (fz:=false) (cs:=[.d (aI 9),.d (.str (localP p).1),.d (aI 0),.ow 87 0 1]) (ds:=[aI 9,.str (localP p).1,aI 0,.sl [(a ((localP p).2.need [61])).1.d]]) bB bB bB (by simp[bI.mut])) ?_;simp;refine XV.mk ⟨.mk 9 (localP p).1 0 [(a ((localP p).2.need [61])).1],(a ((localP p).2.need [61])).2⟩ (aA i [0,2,5] [(0,0),(2,2),(5,5)]) ?_;exact EK d aE aE j
     .apply aF;have E:=Ke p l;have gl:=sV (p.l.length+1) p (A5 _) l;refine bG (oh 16 (dW (placeP p).2) (.d (placeP p).1.d)) ?_;simp;refine⟨by simpa using E,?_⟩;apply aF;have f:=kU (placeP p).2 [61];have v:=cJ (s:=[61]) gl.2.1;refine bG (oh 20 (dW ((placeP p).2.need [61])) (.tup [])) ?_;simp;refine⟨f,?_⟩;have F:=r.ok ((placeP p).2.need [61]) (by have:=gl.1;omega) v.2;refine fF.rd [[0,26],[0,26],[26],[26],[0,26],[0],[],[5],[5],[27],[27]] [[],[],[],[0],[],[26],[27,17],[],[27],[],[5]] (oh 24 (dW (a ((placeP p).2.need [61])).2) (.d (a ((placeP p).2.need [61])).1.d)) ?_;simp;refine⟨by simpa using F,?_⟩;refine iC (cA 5 [27] (fz:=false) (cs:=[.d (aI 10),.d (.str []),.d (aI 0),.ow 27 0 2]) (ds:=[aI 10,.str [],aI 0,.sl [(placeP p).1.d,(a ((placeP p).2.need [61])).1.d]]) bB bB bB (by simp[bI.mut])) ?_;simp;refine XV.mk ⟨.mk 10 [] 0 [(placeP p).1,(a ((placeP p).2.need [61])).1],(a ((placeP p).2.need [61])).2⟩ (aA i [0,2,5] [(0,0),(2,2),(5,5)]) ?_;exact EL d aE aE j
  .apply aF;have f:=kU q [59];refine bG (oh 90 (dW (q.need [59])) (.tup [])) ?_;simp;refine⟨f,?_⟩;apply aD;simp;apply aH;simp;exact aA i [0] [(0,0)] (by simp[h]) (by simp[h])
end
section
attribute[local simp] aR bJ bF aO aL aX aP
attribute[local simp] kH.cond Nd.d_eq nd_t nd_dr nd_td ndsD aQ bN dK prH Bc Bd Be qQ Ij
end
section
attribute[local simp] aR bJ bF aO aL aX aP
attribute[local simp] kH.cond Nd.d_eq nd_t nd_dr nd_td ndsD aQ bN mS dW dK
attribute[local simp] mF CE CF CG Km
theorem Ko(n:Nat):mT n 285 (λq=>exprP false (q.l.length+1) q):=
 ⟨λq _ a=>(EJ (q.l.length+1)).ok q (A5 _) a,λq b a=>(Eo n).le q b a⟩
theorem EM:∀n,aAd n (stmtP false n)
 |0=>λq h=>absurd h (A9 _)
 |n+1=>Ng (exprO_stk false) (blockB_stk (stmtP_stk false n)) (Eo (n+1)) (yE (stmtP_stk false n) (wC n))
theorem EN:∀n:Nat,n<=1100000->mT n 235 (stmtP false n)
 |0,_=>⟨λq h _=>absurd h (A9 _),λq h _=>absurd h (A9 _)⟩
 |n+1,h=>by
  have c:mT n 160 (blockB (stmtP false n)):=
   ⟨λq b a=>Kk q n (stmtP false n) (EN n aE) (EM n) b a aE,λq b a=>(yE (stmtP_stk false n) (wC n)).le q b a⟩
  refine⟨λq b a=>?_,λq b a=>(wC (n+1)).le q b a⟩;exact Nh q n (λq=>exprP false (q.l.length+1) q) (blockB (stmtP false n)) (Ko (n+1)) c b a
theorem mT.block(n:Nat)(h:n<=1100000):mT n 160 (blockP false n):=
 ⟨λq b a=>Kk q n (stmtP false n) (EN n h) (EM n) b a aE,λq b a=>(yE (stmtP_stk false n) (wC n)).le q b a⟩
theorem Yu(s:bC):defKind s=pE (λx=>decide (s=x)) (wordsL.take 7):=by
 unfold defKind;have a:(λi=>decide (wordsL.getD i []=s))=λi=>decide (s=wordsL.getD i []):=by funext i;rw[decide_eq_decide];exact eq_comm
 have e:=Ai (λx=>decide (s=x)) [] (wordsL.take 7);split
 .rename_i h;subst h;rfl
 .unfold pE;rw[<-e];rw[a];rfl
theorem RZ{s:bC}: -1<=defKind s/\defKind s<=6:=by
 unfold defKind;split
 .omega
 .split
  .rename_i i e;have:=List.mem_of_find?_eq_some e;simp at this;omega
  .omega
theorem VB{s:bC}(h:0<=defKind s):wordAt (defKind s)=s/\s≠[]:=by
 unfold defKind at*;split at h
 .omega
 .rename_i a;split at h
  .rename_i i e;have:=List.find?_some e;simp only[decide_eq_true_eq]at this;rw[if_neg a];exact⟨this,a⟩
  .omega
theorem Yv{p:PS}(h:defKind p.peek<0):defP false p=(.mk 0 [] 0 [],p.fail 2):=by unfold defP;simp only[];rw[if_pos h]
theorem wJ{p:PS}(h:¬defKind p.peek<0):p.skip=p.took (wordAt (defKind p.peek)):=by
 obtain⟨a,b⟩:=VB (s:=p.peek) aE;rw[a,dL (nQ.2 ⟨b,rfl⟩)]
section
variable{p q:PS} {t:bC} {k:Int} (hk:defKind p.peek=k) (h:¬k<0) (hn:nameP (p.took (wordAt k))=(t,q))
include hk h hn
theorem Sa(a:k=5\/k=6):defP false p=(.mk k t 0 [(blockP false (q.l.length+1) q).1],(blockP false (q.l.length+1) q).2):=by
 subst hk;unfold defP;simp only[];rw[if_neg h,wJ h,hn,if_pos a]
theorem Yw(a:k=1):defP false p=(.mk k t 0 (itemsF ((q.need [123]).l.length+1) [] (q.need [123])).1,(itemsF ((q.need [123]).l.length+1) [] (q.need [123])).2.need [125]):=by
 subst hk;unfold defP;simp only[];rw[if_neg h,wJ h,hn,if_neg aE,if_pos a]
theorem Yx(a:k=0):defP false p=(.mk k t (numberP (q.need [61])).1 [],(numberP (q.need [61])).2.need [59]):=by
 subst hk;unfold defP;simp only[];rw[if_neg h,wJ h,hn,if_neg aE,if_neg aE,if_pos a]
theorem VC(a:k=2):defP false p=(.mk k t (numeralP 2 q).1 [],(numeralP 2 q).2.need [59]):=by
 subst hk;unfold defP;simp only[];rw[if_neg h,wJ h,hn,if_neg aE,if_neg aE,if_neg aE,if_pos a]
theorem VD(a:¬(k=5\/k=6))(b:¬k=1)(c:¬k=0)(d:¬k=2):defP false p=(.mk k t 0 [],q.need [59]):=by
 subst hk;unfold defP;simp only[];rw[if_neg h,wJ h,hn,if_neg a,if_neg b,if_neg c,if_neg d]
end
theorem Sb{a:List Nd}{q:PS}(h:q.e=0->q.peek=[125]):∀f,itemsF f a q=(a,q)
 |0=>rfl
 |f+1=>by
  rw[itemsF,if_pos];by_cases e:q.e=0
  .exact .inr (h e)
  .exact .inl e
theorem VE{a:List Nd}{q:PS}{f:Nat}(c:q.l.length<f)(h:q.e=0)(b:¬q.peek=[125]):
 itemsF f a q=itemsF (f-1) (a++[.mk 7 (nameP q).1 (numberP ((nameP q).2.need [61])).1 []]) ((numberP ((nameP q).2.need [61])).2.need [59]):=by
 obtain⟨k,rfl⟩:∃k,f=k+1:=⟨f-1,aE⟩;rw[itemsF,if_neg]
 .rfl
 .rintro(e|e)
  .exact e h
  .exact b e
theorem Sc{q:PS}(h:cF q.l):((numberP ((nameP q).2.need [61])).2.need [59]).l.length<=q.l.length/\cF ((numberP ((nameP q).2.need [61])).2.need [59]).l/\
 (((numberP ((nameP q).2.need [61])).2.need [59]).e=0->((numberP ((nameP q).2.need [61])).2.need [59]).l.length<q.l.length):=by
 have b:=dZ h;have c:=cJ (s:=[61]) b.2.1;have d:=AM c.2;have f:=cJ (s:=[59]) d.2.1;refine⟨aE,f.2,λe=>?_⟩;have a:=(need_e e).1;have g:=iD a;have:(numberP ((nameP q).2.need [61])).2.need [59]=(numberP ((nameP q).2.need [61])).2.skip:=by rw[PP a,dL a]
 rw[this];omega
theorem Kp:∀x∈C6 26 uX,(aU x).length=1:=by
 intro x b;rw[zY]at b;obtain⟨a,_,rfl⟩:=List.mem_map.1 b;rfl
theorem Kq:C6 7 uX=(wordsL.take 7).map DV.str:=rfl
structure DnS where
 n:Int
 q:PS
theorem aAe(p:PS)(hg:cF p.l)(hb:p.l.length<=1000000):mE prog 86 [.bx 0 0] (dW p) (dW (defP false p).2) (.d (defP false p).1.d):=by
 unfold dW;refine lA func86 rfl ntmps86 results86 λw0 X j=>?_;apply aD;simp;apply aF;have W:=sG (wordsL.take 7) p.peek;have q2:=nP;rw[<-Yu]at W;have hr:=RZ (s:=p.peek);refine fF.rd [[0]] [[],[],[0]] (λ|8=>some (.gen ⟨[(0,0)],[],[],dW p,.d (.str p.peek)⟩)|9=>some<| .plain ⟨.d (aI (defKind p.peek)),true⟩|_=>none) ?_;simp[Kq];refine⟨⟨⟨⟨aE,Kp⟩,mJ p⟩,by simpa using W⟩,?_⟩;apply aF;refine dH (oh 14 (dW p) (.d (.str p.peek))) ?_;simp[BU];refine⟨λ_=>mJ p,?_⟩;apply aM;simp;refine⟨λL=>?_,λL a0=>?_⟩
 .have L:defKind p.peek<0:=by
   rcases L with h|h
   .exact h
   .rw[h];decide
  refine dH (oh 18 (dW (p.fail 2)) (.tup [])) ?_;simp;refine⟨yQ p 2,?_⟩;apply aD;simp;apply aH;simp;have e:=Yv L;refine cO (x:=(defP false p).1.d) (by simp[e]) ?_;simp;exact aA j [0] [(0,0)] (hH:=by simp[e])
 .have c:¬defKind p.peek<0:=aE;apply aG;simp;apply aF;have c:¬defKind p.peek<0:=aE;have U:=yI (k:=defKind p.peek) aE aE;have S:=jV p (wordAt (defKind p.peek));refine bG (oh 24 (dW (p.took (wordAt (defKind p.peek)))) (.d (.bool (p.is (wordAt (defKind p.peek)))))) ?_;simp[U];refine⟨⟨⟨aE,aE⟩,S⟩,?_⟩;apply aF;have P:=Ba (p.took (wordAt (defKind p.peek)));have Z:=eK (s:=wordAt (defKind p.peek)) hg;have gl:=dZ Z;have lt:(p.took (wordAt (defKind p.peek))).l.length<=p.l.length:=by unfold PS.took;split;exact eO;exact B2 _
  refine bG (oh 27 (dW (nameP (p.took (wordAt (defKind p.peek)))).2) (.d (.str (nameP (p.took (wordAt (defKind p.peek)))).1))) ?_;simp;refine⟨P,?_⟩;obtain⟨k,D⟩:∃k,defKind p.peek=k:=⟨_,rfl⟩;obtain⟨⟨t,q⟩,u⟩:∃x,nameP (p.took (wordAt (defKind p.peek)))=x:=⟨_,rfl⟩;simp only[u]at gl;have lq:q.l.length<=p.l.length:=aE;simp only[u];rw[D]at c u hr|-;refine bH (ι:=DnS) (λ⟨n,r⟩=>bA [(0,.bx 0 0),(2,.bx 2 0),(4,.bx 4 0)]) (λ⟨n,r⟩=>aK [(0,.box false [.d (mS r.l),.d (aI r.e)]),(2,.box false [.d (aI 0),.d (.str []),.d (aI 0),.nl]),(4,.box false [.d (aI k),.d (.str t),.d (aI n),.nl])]) (λ⟨n,r⟩=>defP false p=(.mk k t n [],r.need [59])) ?_ λ⟨n,r⟩ o=>?_
  .apply aD;simp;apply aW;refine bH (ι:=BC) (λ⟨b⟩=>bA [(0,.bx 0 0),(2,.bx 2 0),(4,.bx 4 0),(29,.d (aI k)),(30,.d (.bool b))]) (λ⟨b⟩=>aK [(0,.box false [.d (mS q.l),.d (aI q.e)]),(2,.box false [.d (aI 0),.d (.str []),.d (aI 0),.nl]),(4,.box false [.d (aI k),.d (.str t),.d (aI 0),.nl])]) (λ⟨b⟩=>b=true↔(k=5\/k=6)) ?_ λ⟨b⟩ m=>?_
   .apply bE;simp;refine⟨λV=>?_,λV=>?_⟩
    .apply aG;simp;refine XV.mk ⟨decide (k=5)⟩ (aA j [0,2,4,29,30] [(0,0),(2,2),(4,4)]) ?_;simp[V]
    .apply aJ;simp;refine XV.mk ⟨decide (k=6)⟩ (aA j [0,2,4,29,30] [(0,0),(2,2),(4,4)]) ?_;simp only[decide_eq_true_eq];omega
   .apply aM;simp;refine⟨λv=>?_,λv=>?_⟩
    .have C:=m.1 v;apply aF;have O:=(mT.block (q.l.length+1) aE).ok q (A5 _) gl.2.1;refine bG (oh 34 (dW (blockP false (q.l.length+1) q).2) (.d (blockP false (q.l.length+1) q).1.d)) ?_;simp;refine⟨by simpa using O,?_⟩;apply aD;simp;apply aH;simp;have e:=Sa D c u C;refine cO (x:=(defP false p).1.d) (by simp[e]) ?_;simp;exact aA j [0] [(0,0)] (hH:=by simp[e])
    .have C:¬(k=5\/k=6):=λz=>by simp[m.2 z]at v
     apply bE;simp;refine⟨λw=>?_,λw=>?_⟩
     .apply aF;have i:=kU q [123];have F:=cJ (s:=[123]) gl.2.1;refine bG (oh 41 (dW (q.need [123])) (.tup [])) ?_;simp;refine⟨i,?_⟩;refine kY (fz:=false) (cs:=[.d (aI k),.d (.str t),.d (aI 0),.nl]) 4 3 1066 4 bK ⟨bB,bB,bB,?_⟩;simp;apply eG;refine aZ (ι:=BlS) (λ⟨f,d,r⟩=>bA [(0,.bx 0 0),(2,.bx 2 0),(4,.bx 4 0)]) (λ⟨f,d,r⟩=>aK [(0,.box false [.d (mS r.l),.d (aI r.e)]),(2,.box false [.d (aI 0),.d (.str []),.d (aI 0),.nl]),(4,.box false [.d (aI k),.d (.str t),.d (aI 0),.ow 1066 0 d.length]),(1066,.row false 4 (d.map Nd.d))]) (λ⟨f,d,r⟩=>(r.e=0->r.l.length<f)/\cF r.l/\r.l.length<=p.l.length/\d.length+r.l.length<=p.l.length+(if r.e=0 then 0 else 1)/\itemsF ((q.need [123]).l.length+1) [] (q.need [123])=itemsF f d r) (λ⟨f,d,r⟩=>2*r.l.length+(if r.e=0 then 1 else 0)) ⟨(q.need [123]).l.length+1,[],q.need [123]⟩ (aA j [0,2,4] [(0,0),(2,2),(4,4),(1066,1066)]) (⟨λ_=>A5 _,F.2,by have:=F.1;omega,by have:=F.1;simp only[A2];omega,rfl⟩) λ⟨f,d,r⟩ a=>?_;apply fE;have Q:=mJ r;refine bG (oh 49 (dW r) (.d (.str r.peek))) ?_;simp[BU];refine⟨λ_=>Q,?_⟩;apply aM;simp;refine⟨λE Y=>?_,λg=>?_⟩
      .apply aG;simp;apply aW;apply aF;have ha:r.l.length<=p.l.length:=a.2.2.1;have a1:d.length+r.l.length<=p.l.length:=by have z:=a.2.2.2.1;simp only[E,if_true]at z;omega
       have l:=Sc (q:=r) a.2.1;have G:=Ba r;have M:=dZ (p:=r) a.2.1;have N:=cJ (s:=[61]) M.2.1;refine bG (oh 53 (dW (nameP r).2) (.d (.str (nameP r).1))) ?_;simp;refine⟨G,?_⟩;apply aF;have H:=kU (nameP r).2 [61];refine bG (oh 56 (dW ((nameP r).2.need [61])) (.tup [])) ?_;simp;refine⟨H,?_⟩;apply aF;have I:=GK ((nameP r).2.need [61]) N.2;refine bG (oh 58 (dW (numberP ((nameP r).2.need [61])).2) (.d (aI (numberP ((nameP r).2.need [61])).1))) ?_;simp;refine⟨I,?_⟩;apply aF;have J:=kU (numberP ((nameP r).2.need [61])).2 [59];refine bG (oh 61 (dW ((numberP ((nameP r).2.need [61])).2.need [59])) (.tup [])) ?_;simp;refine⟨J,?_⟩;apply aJ;simp;refine⟨⟨aE,aE⟩,?_⟩;refine On.mk ⟨f-1,d++[.mk 7 (nameP r).1 (numberP ((nameP r).2.need [61])).1 []],(numberP ((nameP r).2.need [61])).2.need [59]⟩ (aA j [0,2,4] [(0,0),(2,2),(4,4),(66,1066)]) ?_ ?_
       .refine⟨λe=>?_,l.2.1,?_,?_,?_⟩
        .show((numberP ((nameP r).2.need [61])).2.need [59]).l.length<f-1;have z:=a.1 E;have h:=l.2.2 e;omega
        .show((numberP ((nameP r).2.need [61])).2.need [59]).l.length<=p.l.length;omega
        .show(d++[Nd.mk 7 (nameP r).1 (numberP ((nameP r).2.need [61])).1 []]).length+((numberP ((nameP r).2.need [61])).2.need [59]).l.length<=p.l.length+(if((numberP ((nameP r).2.need [61])).2.need [59]).e=0 then 0 else 1);rw[B0,B1];by_cases e:((numberP ((nameP r).2.need [61])).2.need [59]).e=0
         .rw[if_pos e];have h:=l.2.2 e;omega
         .rw[if_neg e];omega
        .rw[a.2.2.2.2];exact VE (a.1 E) E Y
       .show 2*((numberP ((nameP r).2.need [61])).2.need [59]).l.length+(if((numberP ((nameP r).2.need [61])).2.need [59]).e=0 then 1 else 0)<2*r.l.length+(if r.e=0 then 1 else 0);rw[if_pos E];by_cases e:((numberP ((nameP r).2.need [61])).2.need [59]).e=0
        .rw[if_pos e];have h:=l.2.2 e;omega
        .rw[if_neg e];omega
      .apply bP;simp;apply aF;have K:=kU r [125];refine bG (oh 69 (dW (r.need [125])) (.tup [])) ?_;simp;refine⟨K,?_⟩;apply aD;simp;apply aH;simp;have e:defP false p=(.mk k t 0 d,r.need [125]):=by rw[Yw D c u w,a.2.2.2.2,Sb g]
       refine cO (x:=(defP false p).1.d) (by simp[e]) ?_;simp;exact aA j [0] [(0,0)] (hH:=by simp[e])
     .apply bE;simp;refine⟨λy=>?_,λy=>?_⟩
      .apply aF;have i:=kU q [61];have F:=cJ (s:=[61]) gl.2.1;refine bG (oh 74 (dW (q.need [61])) (.tup [])) ?_;simp;refine⟨i,?_⟩;have B:=GK (q.need [61]) F.2;refine bG (oh 76 (dW (numberP (q.need [61])).2) (.d (aI (numberP (q.need [61])).1))) ?_;simp;refine⟨B,?_⟩;refine XV.mk ⟨(numberP (q.need [61])).1,(numberP (q.need [61])).2⟩ (aA j [0,2,4] [(0,0),(2,2),(4,4)]) ?_;exact Yx D c u y
      .apply bE;simp;refine⟨λA=>?_,λA=>?_⟩
       .have B:=qY q 2 gl.2.1 bK;refine bG (oh 81 (dW (numeralP 2 q).2) (.d (aI (numeralP 2 q).1))) ?_;simp;refine⟨B,?_⟩;refine XV.mk ⟨(numeralP 2 q).1,(numeralP 2 q).2⟩ (aA j [0,2,4] [(0,0),(2,2),(4,4)]) ?_;exact VC D c u A
       .apply aG;simp;refine XV.mk ⟨0,q⟩ (aA j [0,2,4] [(0,0),(2,2),(4,4)]) ?_;exact VD D c u C w y A
  .apply aF;have i:=kU r [59];refine bG (oh 84 (dW (r.need [59])) (.tup [])) ?_;simp;refine⟨i,?_⟩;apply aD;simp;apply aH;simp;refine cO (x:=(defP false p).1.d) (by simp[o]) ?_;simp;exact aA j [0] [(0,0)] (hH:=by simp[o])
end
section
attribute[local simp] aR bJ bF aO aL aX aP
attribute[local simp] kH.cond Nd.d_eq nd_t nd_dr nd_td ndsD aQ bN dK prH Bc Bd Be qQ
section
variable{p q:PS} {t:bC} {k:Int} (hk:defKind p.peek=k) (h:¬k<0) (hn:nameP p.skip=(t,q))
include hk h hn
end
end
section
attribute[local simp] aR bJ bF aO aL aX aP
attribute[local simp] kH.cond Nd.d_eq nd_t nd_dr nd_td ndsD aQ
end
def Wt(x:PS->Nd×PS):Prop:=∀p:PS,cF p.l->weighN (x p).1+41*(x p).2.l.length<=41*p.l.length+40/\cF (x p).2.l
theorem EO:Wt placeP:=λp h=>by
 have a:=dZ h;have c:=uD h;unfold placeP;split
 .have b:=dZ (dP a.2.1);have t2:=uD (p:=(nameP p).2.skip) (dP a.2.1);have s:=eO (p:=(nameP p).2);refine⟨?_,b.2.1⟩;simp only[weighN,weighL,B0,A4];omega
 .refine⟨?_,a.2.1⟩;simp only[weighN,weighL];omega
theorem Yy{b:PS->Nd×PS}(c:Wt b):Wt (factP b):=λp h=>by
 unfold factP;split
 .have a:=c p.skip (dP h);have s:=eO (p:=p);have n:=jW (p:=(b p.skip).2) (s:=[41]);exact⟨by simp only;omega,(cJ a.2).2⟩
 .split
  .have s:=eO (p:=p);exact⟨by simp only[weighN,weighL,A2];omega,dP h⟩
  .split
   .split
    .have a:=iK (k:=32) h;exact⟨by simp only[weighN,weighL,A2];omega,a.2.1⟩
    .split
     .have a:=gD h;have t:(localP p).1.length<=17:=by
       by_cases q:p.peek.take 1=[36]
       .rw[(qX q).2];have:=rO h;simp only[A3];omega
       .rw[tB q];simp
      exact⟨by simp only[weighN,weighL];omega,a.2.1⟩
     .exact EO p h
   .exact EO p h
theorem GO{lv:Int}{x:PS->Nd×PS}(b:Wt x)(B:Nat):∀(f:Nat) (n:Nd) (p:PS),cF p.l->weighN n+41*p.l.length<=B->weighN (chainF lv x f n p).1+41*(chainF lv x f n p).2.l.length<=B/\cF (chainF lv x f n p).2.l
 |0,_,_,h,hn=>⟨hn,h⟩
 |f+1,n,p,h,hn=>by
  have o:=yD (lv:=lv) h;unfold chainF;split
  .exact⟨hn,h⟩
  .split
   .exact⟨by simp only;omega,o.2⟩
   .rename_i q;have c:=Dl (lv:=lv) (q:=p) aE;have a:=b (opP lv p).2 o.2;refine GO b B f _ _ a.2 ?_;simp only[weighN,weighL,A2];omega
theorem GP{lv:Int}{x:PS->Nd×PS}(a:Wt x):Wt (chainP lv x):=λp h=>GO a _ _ _ _ (a p h).2 (a p h).1
theorem VF{a:PS->Nd×PS}(b:Wt a):Wt (sumP a):=GP (GP (Yy b))
theorem VG{c:PS->Nd×PS}(d:Wt c):Wt (exprB c):=λp h=>by
 have a:=VF d p h;have o:=yD (lv:=1) a.2;by_cases q:0<=(opP 1 (sumP c p).2).1
 .have e:=Dl q;have b:=VF d (opP 1 (sumP c p).2).2 o.2;rw[GL q];refine⟨?_,b.2⟩;simp only[weighN,weighL,A2];omega
 .rw[GM aE];exact⟨by simp only;omega,o.2⟩
theorem Kr:∀f,Wt (exprP false f)
 |0=>λp h=>⟨by
   have:weighN (default:Nd)<=40:=bK;show weighN default+41*p.l.length<=_;omega,h⟩
 |f+1=>λp h=>by
  rw[exprP,if_neg bB];exact VG (Kr f) p h
def Ws(n:Nat)(x:PS->Nd×PS):Prop:=∀p:PS,p.l.length<n->cF p.l->weighN (x p).1+240*(x p).2.l.length<=240*p.l.length+90/\cF (x p).2.l/\((x p).2.e=0->weighN (x p).1+240*(x p).2.l.length<=240*p.l.length)
def Wb(n:Nat)(x:PS->Nd×PS):Prop:=∀p:PS,p.l.length<n->cF p.l->weighN (x p).1+240*(x p).2.l.length<=240*p.l.length+91/\cF (x p).2.l
theorem uE(a b:List Nd):weighL (a++b)=weighL a+weighL b:=by
 induction a with
 |nil=>simp[weighL]
 |cons x a ih=>simp only[List.cons_append,weighL,ih];omega
theorem GQ{m:Nat}{d:PS->Nd×PS}(e:Ws m d)(B:Nat):∀(f:Nat) (c:List Nd) (p:PS),p.l.length<m->cF p.l->weighL c+240*p.l.length<=B+90->(p.e=0->weighL c+240*p.l.length<=B)->
 weighL (stmtsF d f c p).1+240*(stmtsF d f c p).2.l.length<=B+90/\cF (stmtsF d f c p).2.l
 |0,_,_,_,h,h1,_=>⟨h1,h⟩
 |f+1,c,p,hm,h,h1,h2=>by
  unfold stmtsF;split
  .exact⟨h1,h⟩
  .rename_i q;have g:p.e=0:=A8 λz=>q (.inl z);have a:=e p hm h;have b:=h2 g;refine GQ e B f _ _ (by have:=a.1;omega) a.2.1 ?_ λz=>?_
   .rw[uE];simp only[weighL];have:=a.1;omega
   .rw[uE];simp only[weighL];have:=a.2.2 z;omega
theorem GR{m:Nat}{b:PS->Nd×PS}(c:Ws m b):Wb m (blockB b):=λp d h=>by
 have n:=jW (p:=p) (s:=[123]);have g:=(cJ (s:=[123]) h).2;unfold blockB;simp only[];have a:=GQ c (240*(p.need [123]).l.length) ((p.need [123]).l.length+1) [] (p.need [123]) aE g (by simp only[weighL];omega) (λ_=>by simp only[weighL];omega);have m:=jW (p:=(stmtsF b ((p.need [123]).l.length+1) [] (p.need [123])).2) (s:=[125]);refine⟨?_,(cJ a.2).2⟩;simp only[weighN,A2];have:=a.1;omega
theorem Yz{c:PS->Nd×PS}(g:Wt c){k:Int}:∀p:PS,cF p.l->weighN (cmdP c k p).1+240*(cmdP c k p).2.l.length<=240*p.l.length+90/\cF (cmdP c k p).2.l:=λp h=>by
 have a:=yR (k:=k) h;have t:(qZ k p).1.length<=17:=by
  unfold qZ;split
  .by_cases q:p.peek.take 1=[36]
   .rw[(qX q).2];have:=rO h;simp only[A3];omega
   .rw[tB q];simp
  .split
   .simp
   .exact uD h
 by_cases d:k=15\/k=22\/k=24
 .rw[Vz d];have b:=g (qZ k p).2 a.2;refine⟨?_,b.2⟩;simp only[weighN,weighL];omega
 .by_cases e:k=16\/k=23
  .rw[PV d e];have b:=gD a.2;have t2:(localP (qZ k p).2).1.length<=17:=by
    by_cases q:(qZ k p).2.peek.take 1=[36]
    .rw[(qX q).2];have:=rO a.2;simp only[A3];omega
    .rw[tB q];simp
   refine⟨?_,b.2.1⟩;simp only[weighN,weighL];omega
  .by_cases f:k=19\/k=21\/k=25
   .rw[PW d e f];have b:=iK (k:=k) a.2;refine⟨?_,b.2.1⟩;simp only[weighN,weighL];omega
   .rw[GN d e f];refine⟨?_,a.2⟩;simp only[weighN,weighL];omega
theorem Ni{p:PS}(h:cF p.l)(a:(placeP p).2.e=0):(placeP p).2.l.length<p.l.length:=by
 unfold placeP at a|-;have c:(nameP p).2.e=0->(nameP p).2.l.length<p.l.length:=λz=>by
  cases q:isNameB p.peek with
  |false=>rw[wI q]at z;exact absurd z (fail_e bK)
  |true=>
   have b:p.is p.peek=true:=nQ.2 ⟨λe=>(by rw[e]at q;cases q),rfl⟩;have k:=iD b;rw[AZ q,dL b];simp only;omega
 have d:=dZ h;split at a
 .rename_i z;rw[if_pos z];have f:(nameP p).2.skip.e=0:=nameP_stk _ a;have g:(nameP p).2.e=0:=f;have j:=(dZ (p:=(nameP p).2.skip) (dP d.2.1)).1;have i:=eO (p:=(nameP p).2);have:=c g;simp only;omega
 .rename_i z;rw[if_neg z];exact c a
theorem VH{m:Nat}{b f:PS->Nd×PS}(y:Stk b)(o:Wt b)(x:Wb m f):Ws (m+1) (stmtB b f):=λp E h=>by
 obtain⟨k,j⟩:∃k,kindP p.peek=k:=⟨_,rfl⟩;by_cases v:k=11\/k=12
 .have c:=mK (p:=p) aE;have l:=iD c;rw[<-dL c]at l;have d:=o (p.took p.peek) (eK h);have r:=x (b (p.took p.peek)).2 (by have:=d.1;omega) d.2;by_cases g:k=11/\(f (b (p.took p.peek)).2).2.is sElse=true
  .rw[Il j g.1 g.2];have B:=iD g.2;rw[<-dL g.2]at B;have u:=x ((f (b (p.took p.peek)).2).2.took sElse) (by have:=d.1;have:=r.1;omega) (eK r.2);refine⟨?_,u.2,λ_=>?_⟩<;>(simp only[weighN,weighL,A2];omega)
  .rw[VA j v (λq=>by
    cases z:(f (b (p.took p.peek)).2).2.is sElse with
    |false=>rfl
    |true=>exact absurd ⟨q,z⟩ g)]
   refine⟨?_,r.2,λ_=>?_⟩<;>(simp only[weighN,weighL,A2];omega)
 .by_cases w:12<k
  .have c:=mK (p:=p) aE;have l:=iD c;rw[<-dL c]at l;have u:=Yz o (k:=k) (p.took p.peek) (eK h);rw[Nf j w];have n:=jW (p:=(cmdP b k (p.took p.peek)).2) (s:=[59]);refine⟨?_,(cJ u.2).2,λ_=>?_⟩<;>(simp only;omega)
  .by_cases i:p.peek.take 1=[36]
   .obtain⟨F,A⟩:=qX i;have c:p.is p.peek=true:=nQ.2 ⟨λe=>(by rw[e]at i;cases i),rfl⟩;have l:=iD c;rw[<-dL c]at l;have t:=rO h;rw[EK j v w i,A];have C:=jW (p:=p.took p.peek) (s:=[61]);have d:=o ((p.took p.peek).need [61]) (cJ (eK h)).2;have D:=jW (p:=(b ((p.took p.peek).need [61])).2) (s:=[59]);refine⟨?_,(cJ d.2).2,λ_=>?_⟩<;>(simp only[weighN,weighL,A3];omega)
   .rw[EL j v w i];have a:=EO p h;have G:=(sV (p.l.length+1) p (A5 _) h).1;have C:=jW (p:=(placeP p).2) (s:=[61]);have d:=o ((placeP p).2.need [61]) (cJ a.2).2;have D:=jW (p:=(b ((placeP p).2.need [61])).2) (s:=[59]);refine⟨?_,(cJ d.2).2,λz=>?_⟩
    .simp only[weighN,weighL,A2];omega
    .have z:((b ((placeP p).2.need [61])).2.need [59]).e=0:=z;have H:=Ni h (need_e (y _ (need_e z).2)).2;simp only[weighN,weighL,A2];omega
theorem Ks:∀f,Ws f (stmtP false f)
 |0=>λp a _=>absurd a (A9 _)
 |f+1=>VH (exprO_stk false) (λp h=>Kr _ p h) (GR (Ks f))
theorem Sd{p:PS}(z:(nameP p).2.e=0):(nameP p).2.l.length<p.l.length:=by
 cases q:isNameB p.peek with
 |false=>rw[wI q]at z;exact absurd z (fail_e bK)
 |true=>
  have a:p.is p.peek=true:=nQ.2 ⟨λe=>(by rw[e]at q;cases q),rfl⟩;have b:=iD a;rw[AZ q,dL a];simp only;omega
theorem GS(B:Nat):∀(f:Nat) (c:List Nd) (p:PS),cF p.l->weighL c+240*p.l.length<=B+90->(p.e=0->weighL c+240*p.l.length<=B)->
 weighL (itemsF f c p).1+240*(itemsF f c p).2.l.length<=B+90/\cF (itemsF f c p).2.l
 |0,_,_,h,h1,_=>⟨h1,h⟩
 |f+1,c,p,h,h1,h2=>by
  unfold itemsF;split
  .exact⟨h1,h⟩
  .rename_i q;have d:p.e=0:=A8 λz=>q (.inl z);have b:=h2 d;have a:=dZ h;have t:=uD h;have e:=cJ (s:=[61]) a.2.1;have v:=AM e.2;have g:=cJ (s:=[59]) v.2.1;simp only[];refine GS B f _ _ g.2 ?_ λz=>?_
   .rw[uE];simp only[weighN,weighL];omega
   .have i:=numberP_stk _ (need_e z).2;have j:=Sd (need_e i).2;rw[uE];simp only[weighN,weighL];omega
theorem Nj{p:PS}(h:cF p.l):weighN (defP false p).1<=240*p.l.length+300:=by
 have s:=eO (p:=p);have a:=dZ (dP h);have t:=uD (dP h);unfold defP;simp only[];split
 .simp only[weighN,weighL,A2];omega
 .split
  .have b:=GR (Ks ((nameP p.skip).2.l.length+1)) (nameP p.skip).2 (A5 _) a.2.1;have d:weighN (blockP false ((nameP p.skip).2.l.length+1) (nameP p.skip).2).1<=240*(nameP p.skip).2.l.length+91:=by
    have:=b.1;show weighN (blockB (stmtP false ((nameP p.skip).2.l.length+1)) (nameP p.skip).2).1<=_;omega
   simp only[weighN,weighL];omega
  .split
   .have c:=cJ (s:=[123]) a.2.1;have i:=GS (240*((nameP p.skip).2.need [123]).l.length) (((nameP p.skip).2.need [123]).l.length+1) [] ((nameP p.skip).2.need [123]) c.2 (by simp only[weighL];omega) (λ_=>by simp only[weighL];omega);have e:=i.1;simp only[weighN];omega
   .split
    .simp only[weighN,weighL];omega
    .split
     .simp only[weighN,weighL];omega
     .simp only[weighN,weighL];omega
theorem nR:∀(f:Nat) (s:bC) (i:Int),(scanF f s i).1.length<=f
 |0,_,_=>B2 _
 |f+1,s,i=>by
  unfold scanF;split
  .simp
  .split
   .have:=nR f (by assumption) (i+1);omega
   .split
    .simp
    .simp only[A4];exact Nat.succ_le_succ (nR f _ _)
theorem CH{s:bC}(d:s.length<=1024):weighN (defP false ⟨(scanS s).1,0⟩).1<=1000000000:=by
 have a:(scanS s).1.length<=s.length:=nR _ _ _;have b:=Nj (p:=⟨(scanS s).1,0⟩) (nK _ _ _);have c:(PS.mk (scanS s).1 0).l.length=(scanS s).1.length:=rfl;omega
section
attribute[local simp] aR bJ bF aO aL aX aP
attribute[local simp] kH.cond Nd.d_eq nd_t nd_dr nd_td ndsD aQ bN dK prH
end
section
attribute[local simp] aR bJ bF aO aL aX aP
attribute[local simp] kH.cond Nd.d_eq nd_t nd_dr nd_td ndsD aQ bN dK mF CE CF CG Km C9
def iX(L:List Int)(i:Nat):List (Nat×bI):=[(0,.box false [.d (.sl (L.map aI)),.d (aI i)])]
def Kt(L:List Int):Prop:=∀n∈L, -9223372036854775808<=n/\n<=9223372036854775807
attribute[local simp] iX
theorem cC(l:List Int)(i m:Int)(h:0<m):0<=eA l i m/\eA l i m<m:=by
 unfold eA;split
 .omega
 .exact dO _ _ h
theorem fM(L:List Int)(i:Nat)(m:Int)(b:Kt L)(f:i<=3000000)(d:m≠0):mE prog 221 [.bx 0 0,.d (aI m)] (iX L i) (iX L (i+1)) (.d (aI (eA L i m))):=by
 unfold iX;refine nL func221 rfl ntmps221 results221 λg X e=>?_;apply aD;simp;apply aD;simp;refine⟨aE,?_⟩;apply aF;have c:=JI L i m b d;have a:(i:Int)+1-1=i:=aE;refine fF.rd [] [[],[],[],[],[],[],[],[],[],[],[22]] (og 22 (.plain ⟨.d (aI (eA L i m)),true⟩)) ?_;simp[a];refine⟨⟨aE,c⟩,?_⟩;apply aH;simp;exact aA e [4] [(0,0)]
theorem YA{L:List Int}{i:Nat}:(callL.map DV.str)[(eA L i 8).toNat]?.getD default=.str (callM L i):=by
 have h:=cC L i 8 bK;have a:(eA L i 8).toNat<callL.length:=by show _<8;omega
 unfold callM;rw[B7,A0 a];simp[A7,a]
theorem aAf{L:List Int}{i:Nat}:(ownL.map DV.str)[(eA L i 4).toNat]?.getD default=.str (ownM L i):=by
 have h:=cC L i 4 bK;have a:(eA L i 4).toNat<ownL.length:=by show _<4;omega
 unfold ownM;rw[B7,A0 a];simp[A7,a]
theorem aAg{L:List Int}{i:Nat}:(numsM.map aI)[(eA L i 6).toNat]?.getD default=aI (numsM.getD (eA L i 6).toNat 0):=by
 have h:=cC L i 6 bK;have a:(eA L i 6).toNat<numsM.length:=by show _<6;omega
 rw[B7,A0 a];simp[A7,a]
theorem jL(L:List Int)(i:Nat)(b:Kt L)(d:i<=3000000):mE prog 222 [.bx 0 0] (iX L i) (iX L (i+1)) (.d (.str (callM L i))):=by
 unfold iX;refine nL func222 rfl ntmps222 results222 λg X e=>?_;apply aD;simp;apply aF;have c:=fM L i 8 b d bK;have f:=cC L i 8 bK;have a:=YA (L:=L) (i:=i);simp[callL]at a;refine bG (oh 5 (iX L (i+1)) (.d (aI (eA L i 8)))) ?_;simp[a];refine⟨⟨⟨⟨bK,by simpa using c⟩,aE⟩,aE⟩,?_⟩;apply aH;simp;exact aA e [2] [(0,0)]
theorem Bg(L:List Int)(i:Nat)(b:Kt L)(d:i<=3000000):mE prog 275 [.bx 0 0] (iX L i) (iX L (i+1)) (.d (.str (ownM L i))):=by
 unfold iX;refine nL func275 rfl ntmps275 results275 λg X e=>?_;apply aD;simp;apply aF;have c:=fM L i 4 b d bK;have f:=cC L i 4 bK;have a:=aAf (L:=L) (i:=i);simp[ownL]at a;refine bG (oh 5 (iX L (i+1)) (.d (aI (eA L i 4)))) ?_;simp[a];refine⟨⟨⟨⟨bK,by simpa using c⟩,aE⟩,aE⟩,?_⟩;apply aH;simp;exact aA e [2] [(0,0)]
theorem nS(L:List Int)(i:Nat):(callM L i).length<=16:=by
 have h:=cC L i 8 bK;unfold callM;have:∀k:Nat,(callL.getD k []).length<=16:=λk=>by
  rw[A7];cases e:callL[k]? with
  |none=>simp
  |some w=>
   have:=List.mem_of_getElem? e;exact(by decide:∀w∈callL,w.length<=16) w this
 exact this _
theorem VI(L:List Int)(i:Nat)(a:Kt L)(h:i<=2000000):mE prog 277 [.bx 0 0] (iX L i) (iX L (placeM L i).2) (.d (placeM L i).1.d):=by
 unfold iX;refine lA func277 rfl ntmps277 results277 λl X f=>?_;apply aD;simp;apply fE;have g:=fM L i 3 a aE bK;refine bG (oh 5 (iX L (i+1)) (.d (aI (eA L i 3)))) ?_;simp;refine⟨by simpa using g,?_⟩;apply aM;simp;refine⟨λd=>?_,λd=>?_⟩
 .apply aF;have b:=jL L (i+1) a aE;refine bG (oh 8 (iX L (i+1+1)) (.d (.str (callM L (i+1))))) ?_;simp;refine⟨by simpa using b,?_⟩;apply aH;simp;have e:placeM L i=(.mk 34 (callM L (i+1)) 0 [],i+2):=by unfold placeM;rw[if_pos d]
  refine cO (x:=(placeM L i).1.d) (by simp[e]) ?_;simp;exact aA f [0] [(0,0)] (hH:=by simp[e])
 .apply aG;simp;apply aF;have b:=jL L (i+1) a aE;refine bG (oh 11 (iX L (i+1+1)) (.d (.str (callM L (i+1))))) ?_;simp;refine⟨by simpa using b,?_⟩;apply aF;have c:=jL L (i+2) a aE;have j:=nS L (i+1);have k:=nS L (i+2);refine bG (oh 15 (iX L (i+2+1)) (.d (.str (callM L (i+2))))) ?_;simp;refine⟨⟨⟨aE,by simpa using c⟩,aE⟩,?_⟩;apply aH;simp;have e:placeM L i=(.mk 35 (callM L (i+1)++46::callM L (i+2)) 0 [],i+3):=by unfold placeM;rw[if_neg aE]
  refine cO (x:=(placeM L i).1.d) (by simp[e]) ?_;simp;exact aA f [0] [(0,0)] (hH:=by simp[e])
end
end Go.Eng
