/- Part 5 of the proof. No condition. -/
import Derived.Test.YtepoffhhiddlkaaGreatDoorMD
open Go.Proofs
open Go.Proofs.Tryz
set_option linter.unusedVariables false
set_option linter.unusedSimpArgs false
set_option maxRecDepth 20000
set_option maxHeartbeats 4000000
open List renaming take_of_length_le→A0,getElem?_eq_getElem→A1,replicate→A2,getD_eq_getElem?_getD→A3,take→A6,length_map→A8,take_append_getElem→B1,length_take→B2,mem_map→B3,length_drop→B4,length_reverse→B5,range_succ→B6,length_append→B7,getElem_mem→B9,length_cons→C0,getElem_reverse→C2,mem_cons_of_mem→C3,mem_of_mem_take→C4,replicate_succ→C5,mem_cons_self→C6,getElem?_append_left→C9,getElem?_map→D0,mem_cons→D2,map_map→D6,replicate_succ'→D9,map_congr_left→E1,range→E2,append_assoc→E4,getElem_map→E5,take_length→E7,cons_append→E9,mem_append→F0,drop→F2,map→F6
open Nat renaming le_refl→A4,zero_le→A5,le_of_eq→B8,add_assoc→C1,add_sub_cancel→C8,pow_pos→D1,pow_succ→D4,add_zero→D5,le_div_iff_mul_le→D7,div_lt_iff_lt_mul→D8,mul_le_mul→E0,add_comm→F4,mod_lt→F7
open Int renaming tmod_eq_emod_of_nonneg→A9,fdiv_eq_ediv_of_nonneg→C7,natCast_nonneg→E3,natCast_ediv→E6,natCast_pow→F1,lt_or_le→F3,pow_mul→F5
open Option renaming getD_some→E8
open Bool renaming and_eq_true→D3
open BitVec renaming ofInt→B0
open UInt8 renaming ofNat→A7
namespace Go.Eng
section
attribute[local simp] aW bJ bE aR
attribute[local simp] lB.cond
theorem aA5(n:Int)(l:n<0)(h:LY n):Ok prog 131 [aJ n] ⟨.own 1 ((nE n).map bD),true⟩:=by
 refine bL func131 rfl ntmps131 results131 λw0 X m=>?_;have e:(lX n:Int)= -1-n:=by unfold lX;rw[if_pos l];omega
 have k:=EQ h;have t:nE n=(127-(eR 8 (lX n)).length)::((eR 8 (lX n)).map (λd=>255-d)).reverse:=by unfold nE;rw[if_pos l];simp[l]
 have f:=BQ 8 (lX n);obtain⟨Y,Z⟩:=h;obtain⟨M,N⟩:∃M,M=lX n:=⟨_,rfl⟩;rw[<-N]at e k t f;apply aD;simp;apply aD;simp;apply aF;apply aP;simp[l];apply aI;simp;refine⟨aE,?_⟩;apply aD;simp;apply cR;refine aO (ι:=List Nat×Nat) (λ⟨D,q⟩=>aQ [(0,.d (aJ n)),(3,.d (aJ q)),(4,.ow 4 0 D.length)]) (λ⟨D,q⟩=>aL [(4,.row false 1 (D.map bD))]) (λ⟨D,q⟩=>eR 8 M=D++eR (8-D.length) q/\D.length<=8/\q<256^(8-D.length)/\q<=M) (λ⟨D,q⟩=>q) ([],M) (aA m [0,3,4] [(4,4)] (by simp[e])) (⟨rfl,bC,by simpa using k,A4 _⟩) λ⟨D,q⟩ i=>?_;apply aF;apply aP;simp;refine⟨λK=>?_,λK=>?_⟩
 .apply aG;simp;apply aM;apply aF;obtain⟨o,V,p,W⟩:=i;have s:0<q:=aE;have P:D.length<8:=by
   rcases Nat.lt_or_ge D.length 8 with h|h
   .exact h
   .rw[show 8-D.length=0 by omega]at p;simp at p;omega
  have z:eR (8-D.length) q=q%256::eR (8-(D.length+1)) (q / 256):=by rw[show 8-D.length=(8-(D.length+1))+1 by omega,Id s]
  have C:(q:Int).tmod 256=((q%256:Nat):Int):=by rw[A9 aE];omega
  have A:(q:Int).tdiv 256=((q / 256:Nat):Int):=by rw[Int.tdiv_eq_ediv_of_nonneg aE];omega
  have S:IntKind.u8.wrap ((q%256:Nat):Int)=((q%256:Nat):Int):=nL aE aE;have F:IntKind.u8.wrap ((q:Int)%256)=(q:Int)%256:=nL aE aE;have B:A6 D.length (D.map bD)=D.map bD:=A0 bC;apply aI;simp[C,S,B];refine⟨aE,?_⟩;apply aI;simp[A];refine⟨aE,?_⟩;refine QT.mk (D++[q%256],q / 256) (aA m [0,3,4] [(21,4)] (hH:=by simp[bD,F])) ?_ ?_
  .show eR 8 M=(D++[q%256])++eR (8-(D++[q%256]).length) (q / 256)/\(D++[q%256]).length<=8/\q / 256<256^(8-(D++[q%256]).length)/\q / 256<=M;rw[B7,List.length_singleton];refine⟨by rw[o,z];simp,aE,?_,aE⟩;rw[show 8-D.length=(8-(D.length+1))+1 by omega,D4]at p;omega
  .show q / 256<q;omega
 .apply bG;simp;apply aF;obtain⟨o,V,p,W⟩:=i;have Q:q=0:=aE;subst Q;rw[Ic,List.append_nil]at o;rw[o]at t f;have E:IntKind.u8.wrap (127-(D.length:Int))=((127-D.length:Nat):Int):=by rw[nL aE aE];omega
  apply aI;simp;apply aD;simp;apply aF;apply aP;simp[(show¬0<=n by omega)];apply aI;simp[E];refine⟨aE,?_⟩;apply dA;simp;refine⟨aE,?_⟩;apply aM;refine aO (ι:=Nat) (λj=>aQ [(0,.d (aJ n)),(4,.ow 4 0 D.length),(6,.ow 6 0 (j+1)),(7,.d (aJ ((D.length:Int)- 1-(j:Int))))]) (λj=>aL [(4,.row false 1 (D.map bD)),(6,.row false 1 (BS (127-D.length) ((D.map (λd=>255-d)).reverse) j))]) (λj=>j<=D.length) (λj=>D.length-j) 0 (aA m [0,4,6,7] [(4,4),(39,6)] (hH:=by simp[bD,Ae])) (A5 _) λj I=>?_;apply aF;apply aP;simp;refine⟨λr=>?_,λr=>?_⟩
  .apply aG;simp;apply cR;apply aF;have J:j<D.length:=aE;have v:((D.length:Int)- 1-(j:Int)).toNat=D.length-1-j:=aE;have w:((D.map (λd=>255-d)).reverse).length=D.length:=bC;have g:=Af (hd:=127-D.length) (L:=(D.map (λd=>255-d)).reverse) (j:=j) aE;rw[C2,E5]at g;simp only[A8]at g;have O:=f _ (B9 (show D.length-1-j<D.length by omega));have G:IntKind.u8.wrap (255-((D[D.length-1-j]:Nat):Int))=((255-D[D.length-1-j]:Nat):Int):=by rw[nL aE aE];omega
   have b:=mU (hd:=127-D.length) (L:=(D.map (λd=>255-d)).reverse) (j:=j) aE;have a:=nM (hd:=127-D.length) (L:=(D.map (λd=>255-d)).reverse) (j:=j) aE;have u:D[D.length-1-j]? =some D[D.length-1-j]:=A1 aE;apply aI;simp[v,u,bD];refine⟨aE,?_⟩;apply aF;apply aP;simp[l];apply aI;simp[G];apply aI;simp[b,a];refine⟨aE,?_⟩;apply aI;simp;refine⟨aE,?_⟩;refine QT.mk (j+1) (aA m [0,4,6,7] [(4,4),(57,6)] (by simp[show((D.length:Int)- 1-(j:Int)- 1)=(D.length:Int)- 1-((j:Int)+1)by omega]) (by simp[g,bD])) ?_ ?_
   .omega
   .omega
  .apply bG;simp;apply aD;simp;apply aH;have J:j=D.length:=aE;subst J;have w:((D.map (λd=>255-d)).reverse).length=D.length:=bC;have a:=nM (hd:=127-D.length) (L:=(D.map (λd=>255-d)).reverse) (j:=D.length) aE;rw[t,<-BT (hd:=127-D.length) (L:=(D.map (λd=>255-d)).reverse) (j:=D.length) aE];have b:=mU (hd:=127-D.length) (L:=(D.map (λd=>255-d)).reverse) (j:=D.length) aE;simp[a,b];intro x U c H;obtain⟨y,_,rfl⟩:=B3.1 U;simp[bD,aV]at H;subst H;rfl
theorem XL(n:Int)(h:LY n):Ok prog 131 [aJ n] ⟨.own 1 ((nE n).map bD),true⟩:=by
 rcases F3 n 0 with q|q
 .exact aA5 n q h
 .exact aA4 n q h
theorem uG(n:Int):(nE n).length<=9:=by
 have:=FQ 8 (lX n);unfold nE;simp;omega
end
def nN(B:List UInt8)(t:Nat):List LV:=wL (dZ B t++A2 (64-t) 0)
def FR(B:List UInt8)(t:Nat):Nat->BitVec 32
 |0=>0
 |j+1=>FR B t j<<<8|||LT (B.getD (4*t+j) 0)
def BU(B:List UInt8)(t j:Nat):List LV:=wL (dZ B t++(FR B t j::A2 (63-t) 0))
theorem XM(B:List UInt8)(t:Nat):FR B t 4=JN B t:=by
 simp only[FR,D5];exact TZ _ _ _ _
theorem Uh(B:List UInt8):nN B 0=A2 64 (.d (eP 0)):=by simp[nN,dZ,wL]
theorem rO(B:List UInt8){t:Nat}(h:t<=64):(nN B t).length=64:=by simp[nN,pY,fY];omega
theorem XN(B:List UInt8){t j:Nat}(h:t<64):(BU B t j).length=64:=by simp[BU,pY,fY];omega
theorem Ie(B:List UInt8){t:Nat}(h:t<64):BU B t 0=nN B t:=by
 unfold BU nN FR;rw[show 64-t=63-t+1 by omega,C5]
theorem DS(B:List UInt8){t:Nat}(h:t<16):dZ B (t+1)=dZ B t++[JN B t]:=by rw[dZ,if_pos h]
theorem FS(B:List UInt8){t:Nat}(h:¬t<16):dZ B (t+1)=dZ B t++[wd (dZ B t) (t-16)+aA0 (wd (dZ B t) (t-15))+wd (dZ B t) (t-7)+aA1 (wd (dZ B t) (t-2))]:=by rw[dZ,if_neg h]
theorem XO(B:List UInt8){t:Nat}(h:t<16):BU B t 4=nN B (t+1):=by
 unfold BU nN;rw[XM,DS B h,show 64-(t+1)=63-t by omega];simp
theorem JV(a:List (BitVec 32)){i:Nat}(h:i<a.length):(wL a)[i]? =some (.d (eP (a.getD i 0))):=by
 unfold wL;rw[D0,A1 h,A3,A1 h];rfl
theorem XP(A B:List (BitVec 32)):wL (A++B)=wL A++wL B:=by simp[wL]
theorem XQ(A B:List (BitVec 32))(x y:BitVec 32){t:Nat}(h:A.length=t):bE t (wL (A++(x::B))) [.d (eP y)]=wL (A++(y::B)):=by
 have e:=uC (A:=wL A) (B:=wL (x::B)) (new:=[LV.d (eP y)]) (k:=t) (n:=0) (by rw[pY,h]);rw[XP,XP];rw[D5]at e;rw[e];rfl
theorem XR(B:List UInt8){t j:Nat}:(BU B t j)[t]? =some (.d (eP (FR B t j))):=by
 unfold BU;rw[JV _ (by simp[fY])];simp[fY]
theorem XS(B:List UInt8){t j:Nat}:bE t (BU B t j) [.d (eP (FR B t j<<<8|||LT (B.getD (4*t+j) 0)))]=BU B t (j+1):=XQ _ _ _ _ (fY B t)
theorem pI(B:List UInt8){t i:Nat}(h:i<t):(nN B t)[i]? =some (.d (eP (wd (dZ B t) i))):=by
 unfold nN;rw[JV _ (by simp[fY];omega)];unfold wd;rw[A3,A3,C9 (by rw[fY];exact h)]
theorem FT(B:List UInt8){t:Nat}(h:t<64)(y:BitVec 32)(e:dZ B (t+1)=dZ B t++[y]):bE t (nN B t) [.d (eP y)]=nN B (t+1):=by
 rw[<-Ie B h];unfold BU;rw[XQ _ _ _ _ (fY B t)];unfold nN;rw[e,show 64-(t+1)=63-t by omega];simp
theorem Ma(B:List UInt8):nN B 64=wL (dZ B 64):=by simp[nN]
theorem JW(a:List (BitVec 32)){n:Nat}(h:a.length<=n):(wL a).take n=wL a:=A0 (by rw[pY];exact h)
theorem XT(a:List (BitVec 32)):(wD a).length=a.length:=by simp[wD]
theorem XU(a:List (BitVec 32)){i:Nat}(h:i<a.length):(wD a)[i]? =some (eP (a.getD i 0)):=by
 unfold wD;rw[D0,A1 h,A3,A1 h];rfl
def qJ(op:BinOp)(k:IntKind)(a:Int)(k':IntKind)(b:Int):lB:=
 match op with
 | .add=>if k=k' then(if k=.i64 then .cond (.d (.int k (a+b))) (-9223372036854775808<=a+b/\a+b<=9223372036854775807)else .plain (.d (.int k (k.wrap (a+b)))))else .fail
 | .sub=>if k=k' then(if k=.i64 then .cond (.d (.int k (a-b))) (-9223372036854775808<=a-b/\a-b<=9223372036854775807)else .plain (.d (.int k (k.wrap (a-b)))))else .fail
 | .mul=>if k=k' then(if k=.i64 then .cond (.d (.int k (a*b))) (-9223372036854775808<=a*b/\a*b<=9223372036854775807)else .plain (.d (.int k (k.wrap (a*b)))))else .fail
 | .quo=>if k=k' then(if k=.i64 then .cond (.d (.int k (a.tdiv b))) (b≠0/\ -9223372036854775808<=a.tdiv b/\a.tdiv b<=9223372036854775807)else .cond (.d (.int k (k.wrap (a.tdiv b)))) (b≠0))else .fail
 | .rem=>if k=k' then .cond (.d (.int k (a.tmod b))) (b≠0)else .fail
 | .lss=>if k=k' then .plain (.d (.bool (decide (a<b))))else .fail
 | .leq=>if k=k' then .plain (.d (.bool (decide (a<=b))))else .fail
 | .gtr=>if k=k' then .plain (.d (.bool (decide (a>b))))else .fail
 | .geq=>if k=k' then .plain (.d (.bool (decide (a>=b))))else .fail
 | .eql=>if k=k' then .plain (.d (.bool (decide (a=b))))else .fail
 | .neq=>if k=k' then .plain (.d (.bool (!decide (a=b))))else .fail
 | .shl=>.cond (.d (.int k (k.wrap (a*2^min b.toNat k.bits)))) (0<=b)
 | .shr=>.cond (.d (.int k (a.fdiv (2^min b.toNat k.bits)))) (0<=b)
 | .and=>if k=k' then .plain (.d (.int k (k.wrap (B0 k.bits a&&&B0 k.bits b).toNat)))else .fail
 | .or=>if k=k' then .plain (.d (.int k (k.wrap (B0 k.bits a|||B0 k.bits b).toNat)))else .fail
 | .xor=>if k=k' then .plain (.d (.int k (k.wrap (B0 k.bits a^^^B0 k.bits b).toNat)))else .fail
 |_=>.fail
theorem sT(c:List TK)(f:Bool)(e:BinOp)(k d:IntKind)(a b:Int):aW c f e (.d (.int k a)) (.d (.int d b))=qJ e k a d b:=rfl
theorem pJ(c:List TK)(d:Bool)(a b:List UInt8):aW c d .neq (.d (.str a)) (.d (.str b))=.plain (.d (.bool (!(a==b)))):=rfl
theorem yF(n:Int):bJ .neg (.d (.int .i64 n))=.cond (.d (.int .i64 (0-n))) (-9223372036854775808<=0-n/\0-n<=9223372036854775807):=rfl
theorem pK(T:TypeId->cX)(H:Nat->bI){s t:TypeId}{d a:IntKind}(b:(T s).k=.int d)(c:(T t).k=.int a)(k:IntKind)(n:Int):aR T H s t (.d (.int k n))=.plain (.d (.int a (a.wrap n))):=by
 simp only[aR,b,c]
theorem pL(T:TypeId->cX)(H:Nat->bI){s t e:TypeId}(a:(T s).k=.slice e)(b:(T t).k=.str)(c:(T e).k=.int .u8)(x:LV):aR T H s t x=match tF H x with|some ys=>.cond (.d (.str (ys.map tG))) (∀y∈ys,∃n,y=.int .u8 n)|none=>.fail:=by
 simp only[aR,a,b,c];cases tF H x<;>rfl
theorem iJ(T:TypeId->cX)(H:Nat->bI){s t e:TypeId}(a:(T s).k=.str)(b:(T t).k=.slice e)(c:(T e).k=.int .u8)(l:List UInt8):aR T H s t (.d (.str l))=.cond (.d (.sl (l.map eZ))) (l.length<=1099511627776):=by
 simp only[aR,a,b,c];rfl
theorem FU(B:List UInt8):nN B 0=A2 64 (.d (.int .u32 0)):=Uh B
theorem Ph{l:List LV}{i:Nat}{x:LV}(e:l[i]? =some x)(h:i<l.length):l[i]'h=x:=by
 rw[A1 h]at e;exact Option.some.inj e
theorem XV(s:iD):∀c∈kY s,∃k n,c=.int k n:=λc a=>by
 simp only[kY,JT,F0,D2,List.not_mem_nil,or_false,B3]at a;rcases a with(h|h|h|h|h|h|h|h)|⟨b,_,h⟩|h
 all_goals first|exact⟨_,_,h⟩|exact⟨_,_,h.symm⟩
theorem vT(l:List UInt8):∀c∈dO l,∃k n,c=.int k n:=λc a=>by
 obtain⟨b,_,h⟩:=B3.1 a;exact⟨_,_,h.symm⟩
theorem uH(s:List UInt8):(rN s).length=(nE s.length).length+s.length:=by simp[rN]
theorem sU(a:List (BitVec 32)):xC (wL a)=some (wD a):=by rw[XI,fS]
theorem sV(s:H8):xC (CR s)=some (JT s):=fS _
theorem mV(s:iD):xC (dM s)=some (kY s):=fS _
def VZ(tag:Nat)(parts:List (List UInt8)):Nat->iD
 |0=>yE vR [A7 tag]
 |i+1=>yE (VZ tag parts i) (toS (rN (parts.getD i [])))
theorem Mb(a:Nat)(parts:List (List UInt8)){i:Nat}(h:i<parts.length):AO a (parts.take (i+1))=AO a (parts.take i)++toS (rN (parts.getD i [])):=by
 unfold AO;rw[<-B1 h,List.flatMap_append,A3,A1 h];simp
theorem qY(a:Nat)(parts:List (List UInt8)):∀i,i<=parts.length->yB (AO a (parts.take i)) (VZ a parts i)
 |0,_=>Bb LW [A7 a]
 |i+1,h=>by
  rw[Mb a parts aE];exact Bb (qY a parts i aE) _
theorem JX(l:List Nat):(toS l).length=l.length:=by simp[toS]
theorem ES(a:Nat){k:Nat}:∀{parts:List (List UInt8)},(∀s∈parts,(rN s).length<=k)->(AO a parts).length<=1+parts.length*k
 |[],_=>by simp[AO]
 |s::r,h=>by
  have c:=ES a (parts:=r) λx b=>h x (C3 _ b);have d:=h s (C6 ..);simp only[AO,List.flatMap_cons,C0,B7,JX,Nat.add_mul]at*;omega
theorem aC1(l:List Nat):(l.map bD).map tG=toS l:=by
 rw[D6];apply E1;intro x _;simp[tG,bD]
theorem yG{σ:List (Nat×Nat)}{n id k m c:Nat}:ren σ (n+1) (.sb id k m c)=match dN σ id with|some i=>.sb i k m c|none=>.junk:=rfl
theorem mW{id k m c:Nat}:dU (.sb id k m c)=[.sb id k m c]:=rfl
theorem vU(σ:List (Nat×Nat))(l:List DV):(l.map LV.d).map (ren σ 8)=l.map .d:=by
 rw[D6];rfl
theorem nO(σ:List (Nat×Nat))(s:iD):(dM s).map (ren σ 8)=dM s:=vU _ _
theorem tJ(σ:List (Nat×Nat))(l:List (BitVec 32)):(wL l).map (ren σ 8)=wL l:=by rw[XI,vU]
theorem pM(σ:List (Nat×Nat))(B:List UInt8)(t:Nat):(nN B t).map (ren σ 8)=nN B t:=tJ _ _
theorem pN(σ:List (Nat×Nat))(B:List UInt8)(t j:Nat):(BU B t j).map (ren σ 8)=BU B t j:=tJ _ _
def vH(s:H8):List DV:=[eP s.a,eP s.b,eP s.c,eP s.d]
def eD(s:H8):List DV:=[eP s.e,eP s.f,eP s.g,eP s.h]
def vL(s:H8):List LV:=[.d (eP s.a),.d (eP s.b),.d (eP s.c),.d (eP s.d)]
def eL(s:H8):List LV:=[.d (eP s.e),.d (eP s.f),.d (eP s.g),.d (eP s.h)]
theorem yH(s:H8):xC (vL s)=some (vH s):=fS (vH s)
theorem yI(s:H8):xC (eL s)=some (eD s):=fS (eD s)
theorem Bc(s:H8):(vH s).map LV.d=vL s:=rfl
theorem Bd(s:H8):(eD s).map LV.d=eL s:=rfl
theorem vV(s:H8):(JT s).map LV.d=CR s:=rfl
theorem vW(l:List (BitVec 32)):(wD l).map LV.d=wL l:=(XI l).symm
theorem oI(s:iD):(kY s).map LV.d=dM s:=rfl
theorem yJ(σ:List (Nat×Nat))(s:H8):(vL s).map (ren σ 8)=vL s:=vU σ (vH s)
theorem yK(σ:List (Nat×Nat))(s:H8):(eL s).map (ren σ 8)=eL s:=vU σ (eD s)
theorem sW(σ:List (Nat×Nat))(s:H8):(CR s).map (ren σ 8)=CR s:=vU _ _
theorem XW(s:H8):(CR s).take 8=CR s:=rfl
theorem aEQ(s:H8):(CR s).take 4=vL s:=rfl
theorem aER(s:H8):((CR s).drop 4).take 4=eL s:=rfl
theorem BV(s:H8):(CR s).length=8:=rfl
theorem XX(s:H8):(vL s).length=4:=rfl
theorem XY(s:H8):(eL s).length=4:=rfl
theorem cW{α:Type}{A B:List α}(h:A.length<=B.length):bE 0 A B=B:=by simp[bE,h]
def KY(s:H8)(i:Nat):BitVec 32:=[s.a,s.b,s.c,s.d,s.e,s.f,s.g,s.h].getD i 0
def wY(s r:H8)(j:Nat):List LV:=(E2 8).map λi=>.d (eP (if i%4<j then KY s i+KY r i else KY s i))
theorem pO(σ:List (Nat×Nat))(s r:H8)(j:Nat):(wY s r j).map (ren σ 8)=wY s r j:=by
 unfold wY;rw[D6];rfl
theorem Ui(s r:H8):wY s r 0=CR s:=by simp[wY,CR,JT,B6,KY]
theorem XZ(s r:H8):wY s r 4=CR (s.add r):=by simp[wY,CR,JT,B6,KY,H8.add]
theorem Ya(s r:H8)(j:Nat):(wY s r j).length=8:=by simp[wY]
theorem Uj{j:Nat}(h:j<4):j=0\/j=1\/j=2\/j=3:=aE
theorem Yb(s r:H8){j:Nat}(h:j<4):(wY s r j)[j]? =some (.d (eP (KY s j))):=by
 rcases Uj h with rfl|rfl|rfl|rfl<;>simp[wY,B6]
theorem Uk(s r:H8){j:Nat}(h:j<4)(x:LV):(bE j (wY s r j) [x])[j+4]? =some (.d (eP (KY s (j+4)))):=by
 rcases Uj h with rfl|rfl|rfl|rfl<;>simp[wY,B6,bE]
theorem Yc(s r:H8){j:Nat}(h:j<4):bE (j+4) (bE j (wY s r j) [.d (eP (KY s j+KY r j))]) [.d (eP (KY s (j+4)+KY r (j+4)))]=wY s r (j+1):=by
 rcases Uj h with rfl|rfl|rfl|rfl<;>simp[wY,B6,bE]
theorem aC2(r:H8){j:Nat}(h:j<4):(vL r)[j]? =some (.d (eP (KY r j))):=by
 rcases Uj h with rfl|rfl|rfl|rfl<;>rfl
theorem aC3(r:H8){j:Nat}(h:j<4):(eL r)[j]? =some (.d (eP (KY r (j+4)))):=by
 rcases Uj h with rfl|rfl|rfl|rfl<;>rfl
theorem Yd(s:H8){i:Nat}(h:i<8):(CR s)[i]? =some (.d (eP (KY s i))):=by
 rcases(by omega:i=0\/i=1\/i=2\/i=3\/i=4\/i=5\/i=6\/i=7)with rfl|rfl|rfl|rfl|rfl|rfl|rfl|rfl<;>rfl
theorem aC4(a:iD){i:Nat}(h:i<8):(dM a)[i]? =some (.d (eP (KY a.s i))):=by
 rw[<-Yd a.s h];unfold dM kY CR;rw[List.map_append,C9 (by simpa [JT]using h)]
theorem Ul(s:H8){i:Nat}(h:i<32):(qF s)[i]? =some (byW (KY s (i / 4)>>>(24-8*(i%4)))):=by
 obtain⟨q,r,rfl,a,b⟩:∃q r,i=4*q+r/\r<4/\q<8:=⟨i / 4,i%4,aE,aE,aE⟩;rw[show(4*q+r) / 4=q by omega,show(4*q+r)%4=r by omega];rcases Uj a with rfl|rfl|rfl|rfl<;>
 rcases(by omega:q=0\/q=1\/q=2\/q=3\/q=4\/q=5\/q=6\/q=7)with rfl|rfl|rfl|rfl|rfl|rfl|rfl|rfl<;>simp[qF,KY,byW]
def oJ(s:H8)(i:Nat):List LV:=(((qF s).take i++A2 (32-i) 0).map eZ).map .d
theorem uI(s:H8){i:Nat}(h:i<=32):(oJ s i).length=32:=by simp[oJ,uE];omega
theorem pP(σ:List (Nat×Nat))(s:H8)(i:Nat):(oJ s i).map (ren σ 8)=oJ s i:=vU _ _
theorem Ag(s:H8):oJ s 0=A2 32 (.d (eZ 0)):=by simp[oJ]
theorem Mc(s:H8):oJ s 32=((qF s).map eZ).map .d:=by simp[oJ,A0 (B8 (uE s))]
theorem Md(s:H8){i:Nat}(h:i<32):bE i (oJ s i) [.d (eZ (byW (KY s (i / 4)>>>(24-8*(i%4)))))]=oJ s (i+1):=by
 have e:=Ul s h;have b:i<(qF s).length:=by rw[uE];exact h
 rw[A1 b]at e;have e:=Option.some.inj e;rw[<-e];have c:((qF s).take i).length=i:=by rw[B2,uE];omega
 have a:=uC (A:=(qF s).take i) (B:=0::A2 (31-i) 0) (new:=[(qF s)[i]]) (k:=i) (n:=0) c;rw[D5]at a;unfold oJ;rw[show [LV.d (eZ (qF s)[i])]=([(qF s)[i]].map eZ).map .d by rfl,pB,pB,show 32-i=31-i+1 by omega,C5,a,<-B1 b,show 32-(i+1)=31-i by omega,E4];rfl
def sI(n i:Nat):List UInt8:=128::A2 ((119-n%64)%64) 0++(Ua (8*n)).take i
theorem FV(n:Nat):(Ua n).length=8:=by simp[Ua]
theorem Ah(n:Nat):sI n 0=128::A2 ((119-n%64)%64) 0:=by simp[sI]
theorem yL(n:Nat):sI n 8=rM n:=by simp[sI,rM,A0 (B8 (FV _))]
theorem Ai(n:Nat){i:Nat}(h:i<8):sI n (i+1)=sI n i++[A7 (8*n / 256^(7-i))]:=by
 unfold sI;rw[<-B1 (by rw[FV];exact h)];simp[Ua]
theorem BW(n:Nat){i:Nat}(h:i<=8):(sI n i).length=1+(119-n%64)%64+i:=by simp[sI,FV];omega
theorem Me(M:Nat){i:Nat}(h:i<8):(M:Int).fdiv (2^min (56-8*(i:Int)).toNat IntKind.u64.bits)=((M / 256^(7-i):Nat):Int):=by
 show(M:Int).fdiv (2^min (56-8*(i:Int)).toNat 64)=((M / 256^(7-i):Nat):Int);have e:(2:Int)^(8*(7-i))=((256^(7-i):Nat):Int):=by
  rw[F5,F1];rfl
 rw[show min (56-8*(i:Int)).toNat 64=8*(7-i)by omega,e,C7 _ (E3 _),E6]
theorem Sh(n:Nat):DV.int .u8 (IntKind.u8.wrap (n:Int))=eZ (A7 n):=by
 unfold eZ IntKind.wrap;simp[IntKind.bits,IntKind.signed,UInt8.toNat_ofNat]
section
attribute[local simp] mP mQ pC mR jX pD mS mT sS pE pF pG pH nJ
attribute[local simp] sT qJ pJ yF pK pL iJ lB.cond bO sU sV mV yH yI yG mW nO tJ pM pN yJ yK sW pO pP
theorem Be(x:BitVec 32)(k:Nat)(a:0<k)(b:k<32):Ok prog 267 [eP x,aJ (-(k:Int))] ⟨.d (eP (AN x k)),true⟩:=by
 refine bL func267 rfl ntmps267 results267 λf X e=>?_;have c:=aDX k b a;have d:IntKind.u64.wrap (32-((32-k:Nat):Int))=(k:Int):=by rw[show(32:Int)-((32-k:Nat):Int)=(k:Int)by omega];exact oG aE
 apply aD;simp;apply aD;simp[c];apply aD;simp[d,XF];apply aH;simp[eP]
theorem aA6(x:BitVec 32):Ok prog 267 [eP x,aJ (-7)] ⟨.d (eP (AN x 7)),true⟩:=Be x 7 bF bF
theorem Ye(x:BitVec 32):Ok prog 267 [eP x,aJ (-18)] ⟨.d (eP (AN x 18)),true⟩:=Be x 18 bF bF
theorem Yf(x:BitVec 32):Ok prog 267 [eP x,aJ (-17)] ⟨.d (eP (AN x 17)),true⟩:=Be x 17 bF bF
theorem Yg(x:BitVec 32):Ok prog 267 [eP x,aJ (-19)] ⟨.d (eP (AN x 19)),true⟩:=Be x 19 bF bF
theorem Yh(x:BitVec 32)(i j k:Nat)(a:0<i/\i<32)(b:0<j/\j<32)(c:0<k/\k<32):Ok prog 198 [eP x,aJ i,aJ j,aJ k] ⟨.d (eP (LU x i j k)),true⟩:=by
 refine bL func198 rfl ntmps198 results198 λe X d=>?_;apply aD;simp;refine cP (λ|12=>some<| .plain ⟨.d (eP (AN x i)),true⟩|16=>some<| .plain ⟨.d (eP (AN x j)),true⟩|21=>some<| .plain ⟨.d (eP (AN x k)),true⟩|_=>none) ?_;simp;refine⟨⟨⟨⟨⟨⟨aE,Be x i a.1 a.2⟩,aE⟩,Be x j b.1 b.2⟩,aE⟩,Be x k c.1 c.2⟩,?_⟩;apply aH;simp[eP,LU]
theorem Mf(a:iD)(w:a.B.length=64):iP prog 197 [.sb 0 8 64 64] [(0,.box false (dM a))] [(0,.box false (dM a))] (.d (.agg (wD (dZ a.B 64)))):=by
 refine fJ func197 rfl ntmps197 results197 λJ X d=>?_;have f:=gM w;apply aD;simp;apply aD;simp;apply dA;simp;apply aM;refine aO (ι:=Nat) (λt=>aQ [(0,.sb 0 8 64 64),(2,.bx 2 0),(3,.bx 3 0),(11,.d (aJ t))]) (λt=>aL [(0,.box false (dM a)),(2,.box false (nN a.B 0)),(3,.box false (nN a.B t))]) (λt=>t<=64) (λt=>64-t) 0 (aA d [0,2,3,11] [(0,0),(2,2),(3,3)] (hH:=by simp[FU])) (A5 _) λt l=>?_;apply aD;simp;apply aF;apply aK;simp;refine⟨λC=>?_,λC=>?_⟩
 .apply aG;simp;apply cR;apply aD;simp;apply eG;have g:=rO a.B l;apply aI;simp;apply aK;simp;refine⟨λD=>?_,λD=>?_⟩
  .apply eG;have y:(4*(t:Int)).toNat=4*t:=aE;have z:(4*(t:Int)+4-4*(t:Int)).toNat=4:=aE;apply aI;simp[y,z];refine⟨aE,?_⟩;apply aM;refine aO (ι:=Nat) (λj=>aQ [(0,.sb 0 8 64 64),(2,.bx 2 0),(3,.bx 3 0),(4,.d (aJ t)),(11,.d (aJ t)),(22,.sb 0 (8+4*t) 4 (64-4*t)),(23,.d (aJ 4)),(24,.d (aJ j))]) (λj=>aL [(0,.box false (dM a)),(2,.box false (nN a.B 0)),(3,.box false (BU a.B t j))]) (λj=>j<=4) (λj=>4-j) 0 (aA d [0,2,3,4,11,22,23,24] [(0,0),(2,2),(3,3)] (hH:=by simp[Ie a.B (show t<64 by omega)])) (A5 _) λj F=>?_;apply aD;simp;apply aF;apply aK;simp;refine⟨λE=>?_,λE=>?_⟩
   .apply aG;simp;apply cR;apply aF;have x:=aCY w (i:=4*t+j) aE;rw[<-C1]at x;apply aI;simp[f,x];refine⟨aE,?_⟩;have p:=XN a.B (t:=t) (j:=j) aE;have o:=XR a.B (t:=t) (j:=j);have b:=XS a.B (t:=t) (j:=j);simp only[A3]at b;apply aI;simp[p,o];refine⟨aE,?_⟩;apply aI;simp;refine⟨aE,?_⟩;refine QT.mk (j+1) (aA d [0,2,3,4,11,22,23,24] [(0,0),(2,2),(3,3)] (hH:=by simp[b])) ?_ ?_
    .omega
    .omega
   .apply bG;simp;apply bG;simp;apply aI;simp;refine⟨aE,?_⟩;have n:=XO a.B (t:=t) aE;have m:j=4:=aE;subst m;refine QT.mk (t+1) (aA d [0,2,3,11] [(0,0),(2,2),(3,3)] (hH:=by simp[n])) ?_ ?_
    .omega
    .omega
  .apply aG;simp;apply aF;have u:((t:Int)- 15).toNat=t-15:=aE;have H:((t:Int)- 2).toNat=t-2:=aE;have h:=pI a.B (t:=t) (i:=t-15) aE;have A:=pI a.B (t:=t) (i:=t-2) aE;refine fL.rd [] [] (λ_=>none) ?_;simp[g,u,H,h,A];refine⟨aE,?_⟩;refine cP (λ|47=>some<| .plain ⟨.d (eP (AN (wd (dZ a.B t) (t-15)) 7)),true⟩|49=>some<| .plain ⟨.d (eP (AN (wd (dZ a.B t) (t-15)) 18)),true⟩|_=>none) ?_;simp;refine⟨⟨aA6 _,Ye _⟩,?_⟩;refine cP (λ|55=>some<| .plain ⟨.d (eP (AN (wd (dZ a.B t) (t-2)) 17)),true⟩|57=>some<| .plain ⟨.d (eP (AN (wd (dZ a.B t) (t-2)) 19)),true⟩|_=>none) ?_;simp;refine⟨⟨Yf _,Yg _⟩,?_⟩;have v:((t:Int)- 16).toNat=t-16:=aE;have I:((t:Int)- 7).toNat=t-7:=aE;have k:=pI a.B (t:=t) (i:=t-16) aE;have B:=pI a.B (t:=t) (i:=t-7) aE;have b:=FT a.B (show t<64 by omega) _ (FS a.B (t:=t) aE);simp only[aA0,aA1]at b;refine fL.rd [] [[],[],[],[],[],[],[],[],[],[],[],[],[],[],[],[3]] (λ_=>none) ?_;simp[g,v,I,k,B];refine⟨aE,?_⟩;apply aI;simp;refine⟨aE,?_⟩;refine QT.mk (t+1) (aA d [0,2,3,11] [(0,0),(2,2),(3,3)] (hH:=by simp[b])) ?_ ?_
   .omega
   .omega
 .apply bG;simp;apply aF;have G:t=64:=aE;subst G;have e:=rO a.B (t:=0) aE;have c:=fY a.B 64;have r:A6 64 (nN a.B 64)=wL (dZ a.B 64):=by rw[Ma,JW _ (B8 c)]
  have q:bE 0 (nN a.B 0) (wL (dZ a.B 64))=wL (dZ a.B 64):=cW (by rw[pY,c,e];exact A4 _);apply aI;simp[r,vW,q,e,rO,pY,c];apply aH;have s:=JW (dZ a.B 64) (B8 c);simp[s,pY,c];exact aA d [0] [(0,0)]
end
section
attribute[local simp] mP mQ pC mR jX pD mS mT sS pE pF pG pH nJ
attribute[local simp] sT qJ pJ yF pK pL iJ lB.cond aX bO sU sV mV yH yI yG mW nO tJ pM pN yJ yK sW pO pP Bc Bd vV vW oI
theorem Yi:Wf=wD KS:=by rfl
theorem Yj:KS.length=64:=by rfl
set_option maxRecDepth 100000
theorem Mg(st:iD)(s:H8)(H:st.B.length=64):iP prog 132 [.d (.agg (JT s)),.sb 0 8 64 64] [(0,.box false (dM st))] [(0,.box false (dM st))] (.d (.agg (JT (comp s st.B)))):=by
 refine fJ func132 rfl ntmps132 results132 λY X q=>?_;have J:=gM H;have n:=fY st.B 64;have p:comp s st.B=s.add (sH s KS (dZ st.B 64) 64):=rfl;obtain⟨V,L⟩:∃V,V=dZ st.B 64:=⟨_,rfl⟩;have k:=Mf st H;rw[<-L]at n p k;have F:∀a b c d:LV,bE 0 [a,b,c,d] (vL s)=vL s:=λ_ _ _ _=>cW (A4 4);have B:∀a b c d:LV,bE 0 [a,b,c,d] (eL s)=eL s:=λ_ _ _ _=>cW (A4 4);have o:(wD KS).length=64:=rfl;have y:A6 64 (wD KS)=wD KS:=rfl;have l:(wL V).length=64:=by rw[pY,n]
 have z:(wD V).length=64:=by rw[XT,n]
 apply aD;simp;refine cP (oh 14 [(0,.box false (dM st))] (.d (.agg (wD V)))) ?_;simp[l,z];refine⟨k,?_⟩;apply aF;refine fL.rd [[6,7],[6,7],[6,7],[6,7],[6,7],[6,7],[7],[6]] [[],[],[],[],[],[],[6],[7],[6],[7]] (λ_=>none) ?_;simp[aEQ,aER,XX,XY,BV];apply dA;simp[Yi,o,y];apply aM;refine aO (ι:=Nat) (λt=>aQ [(2,.bx 2 0),(4,.bx 4 0),(5,.bx 5 0),(6,.bx 6 0),(7,.bx 7 0),(21,.d (.agg (wD KS))),(22,.d (aJ t))]) (λt=>aL [(0,.box false (dM st)),(2,.box false (CR s)),(4,.box false (A2 8 (.d (.int .u32 0)))),(5,.box false (wL V)),(6,.box false (vL (sH s KS V t))),(7,.box false (eL (sH s KS V t)))]) (λt=>t<=64) (λt=>64-t) 0 (aA q [2,4,5,6,7,21,22] [(0,0),(2,2),(4,4),(5,5),(6,6),(7,7)] (hH:=by simp[sH,A2,cW,l,F,B])) (A5 _) λt O=>?_;apply aD;simp;apply aF;apply aK;simp;refine⟨λK=>?_,λK=>?_⟩
 .apply aG;simp;apply cR;apply aF;have Q:=XU KS (i:=t) (by rw[Yj];omega);apply aI;simp[Q,o];refine⟨aE,?_⟩;apply aF;have W:=JV V (i:=t) aE;obtain⟨r,v⟩:∃r,r=sH s KS V t:=⟨_,rfl⟩;have E:sH s KS V (t+1)=XG r (KS.getD t 0) (V.getD t 0):=by rw[v];rfl
  rw[<-v];refine fL.rd [[30],[30],[],[],[],[],[30],[30],[30],[30],[30],[30],[30],[30],[30],[30],[30],[30],[],[30],[],[30],[30],[30]] [[],[],[],[],[30]] (og 30 (.plain ⟨.d (eP (LU r.e 6 11 25)),true⟩)) ?_;simp[W,eL,l];refine⟨⟨⟨Yh r.e 6 11 25 bF bF bF,aE⟩,aE⟩,?_⟩;apply aF;refine fL.rd [[],[],[],[53],[53],[53],[53],[53],[53],[53],[53],[53],[53],[53],[53],[53],[53],[53],[53],[53]] [[],[],[53]] (og 53 (.plain ⟨.d (eP (LU r.a 2 13 22)),true⟩)) ?_;simp[vL];refine⟨Yh r.a 2 13 22 bF bF bF,?_⟩;apply aD;simp[vL,eL,bE];apply aI;simp[vL,eL,bE];apply aI;simp;refine⟨aE,?_⟩;refine QT.mk (t+1) (aA q [2,4,5,6,7,21,22] [(0,0),(2,2),(4,4),(5,5),(6,6),(7,7)] (hH:=by simp[E,XG,vL,eL,bE])) ?_ ?_
  .omega
  .omega
 .apply bG;simp;apply eG;obtain⟨r,v⟩:∃r,r=sH s KS V t:=⟨_,rfl⟩;apply aI;simp;apply aM;refine aO (ι:=Nat) (λj=>aQ [(2,.bx 2 0),(4,.bx 4 0),(6,.bx 6 0),(7,.bx 7 0),(94,.d (aJ j))]) (λj=>aL [(0,.box false (dM st)),(2,.box false (wY s r j)),(4,.box false (A2 8 (.d (.int .u32 0)))),(6,.box false (vL r)),(7,.box false (eL r))]) (λj=>j<=4) (λj=>4-j) 0 (aA q [2,4,6,7,94] [(0,0),(2,2),(4,4),(6,6),(7,7)] (hH:=by simp[Ui,v])) (A5 _) λj I=>?_;apply aD;simp;apply aF;apply aK;simp;refine⟨λw=>?_,λw=>?_⟩
  .apply aG;simp;apply cR;apply aD;simp;apply aF;have M:=Yb s r (show j<4 by omega);have U:=aC2 r (show j<4 by omega);have N:=aC3 r (show j<4 by omega);have m:=Ya s r j;have A:=Uk s r (show j<4 by omega);have u:=Yc s r (show j<4 by omega);refine fL.rd [] [[],[],[],[],[],[],[],[],[2]] (λ_=>none) ?_;simp[M,U,m,XX];refine⟨aE,?_⟩;have D:∀x:LV,(bE j (wY s r j) [x]).length=8:=λx=>by rw[CS (by rw[m];simp;omega),m]
   have C:((j:Int)+4).toNat=j+4:=aE;refine fL.rd [] [[],[],[],[],[],[],[],[],[],[2]] (λ_=>none) ?_;simp[C,A,N,D,XY];refine⟨aE,?_⟩;apply aI;simp;refine⟨aE,?_⟩;refine QT.mk (j+1) (aA q [2,4,6,7,94] [(0,0),(2,2),(4,4),(6,6),(7,7)] (hH:=by simp[u])) ?_ ?_
   .omega
   .omega
  .apply bG;simp;apply aF;have P:j=4:=aE;subst P;have S:t=64:=aE;subst S;have G:∀a b c d e f g h:LV,bE 0 [a,b,c,d,e,f,g,h] (CR (s.add r))=CR (s.add r):=λ_ _ _ _ _ _ _ _=>cW (A4 8);apply aI;simp[G,XZ,BV,XW,cW];apply aH;rw[p,<-v];simp[BV,XW];exact aA q [0] [(0,0)]
end
section
attribute[local simp] aW bJ bE aR
attribute[local simp] lB.cond
end
theorem uJ:∀(f m k:Nat),m<256^k->(k=0\/256^(k-1)<=m)->k<=f->(eR f m).length=k
 |0,m,k,_,_,hk=>by have:k=0:=aE
                   subst this;rfl
 |f+1,m,0,h,_,_=>by simp at h;subst h;simp[eR]
 |f+1,m,k+1,h,a,hk=>by
  have c:0<256^k:=D1 bF;have b:256^k<=m:=by rcases a with a|a;omega;simpa using a
  unfold eR;rw[if_neg aE,C0,uJ f (m / 256) k ?_ ?_ aE]
  .rw[D4]at h;omega
  .cases k with
   |zero=>exact .inl rfl
   |succ k=>right;simp only[C8];rw[D4]at b;omega
theorem FW:∀(f m i:Nat),i<(eR f m).length->(eR f m)[i]? =some (m / 256^i%256)
 |0,_,_,h=>by simp[eR]at h
 |f+1,m,i,h=>by
  unfold eR at h|-;split
  .rename_i a;rw[if_pos a]at h;simp at h
  .rename_i a;rw[if_neg a]at h;cases i with
   |zero=>simp
   |succ i=>
    rw[List.getElem?_cons_succ,FW f (m / 256) i (by simpa using h),Nat.div_div_eq_div_mul,D4,Nat.mul_comm]
theorem aA7{n:Int}(c: -9223372036854775808<=n)(d:n<0):IntKind.u64.wrap (B0 64 IntKind.u64.max^^^B0 64 (IntKind.u64.wrap n)).toNat= -1-n:=by
 have a:B0 64 IntKind.u64.max=BitVec.allOnes 64:=bF;have b:IntKind.u64.wrap n=n+18446744073709551616:=by
  unfold IntKind.wrap;simp[IntKind.bits,IntKind.signed];omega
 rw[a,BitVec.allOnes_xor,BitVec.toNat_not,b,BitVec.toNat_ofInt];unfold IntKind.wrap;simp[IntKind.bits,IntKind.signed];omega
theorem aC5{n:Int}(a:0<=n)(b:n<=9223372036854775807):IntKind.u64.wrap n=n:=by
 unfold IntKind.wrap;simp[IntKind.bits,IntKind.signed];omega
set_option maxRecDepth 100000 in
theorem Mh:∀x:Nat,x<256->IntKind.u8.wrap (B0 IntKind.u8.bits (x:Int)^^^B0 IntKind.u8.bits 0).toNat=(x:Int):=bF
set_option maxRecDepth 100000 in
theorem Si:∀x:Nat,x<256->IntKind.u8.wrap (B0 IntKind.u8.bits (x:Int)^^^B0 IntKind.u8.bits 255).toNat=((255-x:Nat):Int):=bF
theorem Yk(x:Nat):IntKind.u8.wrap (x:Int)=((x%256:Nat):Int):=by
 unfold IntKind.wrap;simp[IntKind.bits,IntKind.signed]
theorem ET(M i:Nat)(h:i<8):(M:Int).fdiv (2^min (8*(i:Int)).toNat IntKind.u64.bits)=((M / 256^i:Nat):Int):=by
 show(M:Int).fdiv (2^min (8*(i:Int)).toNat 64)=((M / 256^i:Nat):Int);have e:(2:Int)^(8*i)=((256^i:Nat):Int):=by
  rw[F5,F1];rfl
 rw[show min (8*(i:Int)).toNat 64=8*i by omega,e,C7 _ (E3 _),E6]
section
attribute[local simp] aW bJ bE aR
attribute[local simp] lB.cond
theorem Yl(n:Int)(Y:0<=n)(h:LY n):Ok prog 59 [aJ n] ⟨.own 1 ((nE n).map bD),true⟩:=by
 refine bL func59 rfl ntmps59 results59 λw0 X p=>?_;have r:=EQ h;have l:(lX n:Int)=n:=by unfold lX;rw[if_neg aE];omega
 have J:nE n=(128+(eR 8 (lX n)).length)::(eR 8 (lX n)).reverse:=by unfold nE;rw[if_neg aE];simp[show¬n<0 by omega]
 have w:=BQ 8 (lX n);obtain⟨h1,P⟩:=h;obtain⟨M,U⟩:∃M,M=lX n:=⟨_,rfl⟩;rw[<-U]at l r J w;apply aD;simp;refine fL.scope ?_;apply aD;simp[aC5 Y P];apply aF;apply aP;simp[(show¬n<0 by omega)];apply aG;simp;apply aD;simp;apply aF;refine fL.label ?_;simp;refine aY (ι:=Nat×Int) (λ⟨k,o⟩=>aQ [(3,.d (.int .u64 (M:Int))),(4,.d (.int .u8 o)),(5,.d (aJ k))]) (λ⟨k,o⟩=>aL []) (λ⟨k,o⟩=>(eR 8 M).length=k/\k<=8/\o=0) ?_ λ⟨k,o⟩ v=>?_
 .apply aM;refine aO (ι:=Nat) (λk=>aQ [(3,.d (.int .u64 (M:Int))),(4,.d (.int .u8 0)),(5,.d (aJ k))]) (λk=>aL []) (λk=>k<=8/\M<256^k) (λk=>k) 8 (aA p [3,4,5] [] (by simp[l])) (⟨A4 _,r⟩) λk a=>?_;apply aF;apply aP;simp;refine⟨λQ=>?_,λQ=>?_⟩
  .apply aG;simp;apply aM;apply eG;have W:0<k:=aE;obtain⟨i,V⟩:∃i,k=i+1:=⟨k-1,aE⟩;have A:i<8:=aE;have e:=ET M i A;obtain⟨D,q⟩:∃D,D=M / 256^i:=⟨_,rfl⟩;rw[<-q]at e;have C:((k:Int)- 1)=(i:Int):=aE;apply aI;simp[C,e];refine⟨aE,?_⟩;apply aK;simp;refine⟨λS=>?_,λS=>?_⟩
   .apply bG;simp;refine aAV.mk (k,0) (aA p [3,4,5] []) ?_;refine⟨uJ 8 M k a.2 (.inr ?_) a.1,a.1,rfl⟩;subst V;have m:0<M / 256^i:=by rw[<-q];omega
    rw[C8];exact(D7 (D1 bF)).1 m |> λh=>by simpa using h
   .apply aG;simp;apply aI;simp;refine⟨aE,?_⟩;refine QT.mk (k-1) (aA p [3,4,5] [] (by simp[show((k-1:Nat):Int)=(k:Int)- 1 by omega])) ?_ ?_
    .refine⟨aE,?_⟩;rw[show k-1=i by omega];have m:M / 256^i<1:=by rw[<-q];omega
     simpa using(D8 (D1 bF)).1 m
    .omega
  .apply bG;simp;refine aAV.mk (k,0) (aA p [3,4,5] []) ?_;exact⟨uJ 8 M k a.2 (.inl aE) a.1,a.1,rfl⟩
 .apply aF;obtain⟨s,Z,I⟩:=v;have G:IntKind.u8.wrap (128+(k:Int))=128+(k:Int):=nL aE aE;have b:=Mh (128+k) aE;rw[<-I]at b;rw[show((128+k:Nat):Int)=128+(k:Int)by omega]at b;simp at b;apply aI;simp[G,b];refine⟨aE,?_⟩;apply dA;simp;refine⟨aE,?_⟩;apply aM;refine aO (ι:=Nat) (λj=>aQ [(3,.d (.int .u64 (M:Int))),(4,.d (.int .u8 o)),(6,.ow 6 0 (j+1)),(7,.d (aJ ((k:Int)- 1-(j:Int))))]) (λj=>aL [(6,.row false 1 (BS (128+k) (eR 8 M).reverse j))]) (λj=>j<=k) (λj=>k-j) 0 (aA p [3,4,6,7] [(29,6)] (hH:=by simp[bD,Ae])) (A5 _) λj N=>?_;apply aF;apply aP;simp;refine⟨λt=>?_,λt=>?_⟩
  .apply aG;simp;apply cR;have O:j<k:=aE;have B:(k:Int)- 1-(j:Int)=((k-1-j:Nat):Int):=aE;have e:=ET M (k-1-j) aE;have E:(eR 8 M).reverse.length=k:=by rw[B5];exact s
   have g:=Af (hd:=128+k) (L:=(eR 8 M).reverse) (j:=j) aE;have z:(eR 8 M).reverse[j]'aE=M / 256^(k-1-j)%256:=by
    have h:=FW 8 M (k-1-j) aE;rw[C2];rw[A1 aE]at h;simp only[s];exact Option.some.inj h
   rw[z]at g;have F:=Yk (M / 256^(k-1-j));have b:=Mh (M / 256^(k-1-j)%256) (F7 _ bF);rw[<-I]at b;obtain⟨D,q⟩:∃D,D=M / 256^(k-1-j):=⟨_,rfl⟩;rw[<-q]at e F b g;obtain⟨H,u⟩:∃H,H=D%256:=⟨_,rfl⟩;rw[<-u]at F b g;simp at b;have f:=mU (hd:=128+k) (L:=(eR 8 M).reverse) (j:=j) aE;have d:=nM (hd:=128+k) (L:=(eR 8 M).reverse) (j:=j) aE;apply aI;simp[B,e,F,b,f,d];refine⟨aE,?_⟩;apply aI;simp;refine⟨aE,?_⟩;refine QT.mk (j+1) (aA p [3,4,6,7] [(45,6)] (by simp[show((k-1-j:Nat):Int)- 1=(k:Int)- 1-((j:Int)+1)by omega]) (by simp[g,bD])) ?_ ?_
   .omega
   .omega
  .apply bG;simp;apply aD;simp;apply aH;have O:j=k:=aE;subst O;have E:(eR 8 M).reverse.length=j:=by rw[B5];exact s
   have d:=nM (hd:=128+j) (L:=(eR 8 M).reverse) (j:=j) aE;have f:=mU (hd:=128+j) (L:=(eR 8 M).reverse) (j:=j) aE;rw[J,s,<-BT (hd:=128+j) (L:=(eR 8 M).reverse) (j:=j) aE];simp[d,f];intro x b c K;obtain⟨y,_,rfl⟩:=B3.1 b;simp[bD,aV]at K;subst K;rfl
theorem Ym(n:Int)(u:n<0)(h:LY n):Ok prog 59 [aJ n] ⟨.own 1 ((nE n).map bD),true⟩:=by
 refine bL func59 rfl ntmps59 results59 λw0 X q=>?_;have t:=EQ h;have m:(lX n:Int)= -1-n:=by unfold lX;rw[if_pos u];omega
 have P:nE n=(127-(eR 8 (lX n)).length)::((eR 8 (lX n)).map (λd=>255-d)).reverse:=by unfold nE;rw[if_pos u];simp[u]
 have C:=BQ 8 (lX n);obtain⟨V,h2⟩:=h;obtain⟨M,Z⟩:∃M,M=lX n:=⟨_,rfl⟩;rw[<-Z]at m t P C;apply aD;simp;refine fL.scope ?_;apply aD;simp;apply aF;apply aP;simp[u];have s:=aA7 V u;simp at s;have B:IntKind.u64.wrap ((((if IntKind.u64.signed=true then -1 else IntKind.u64.max)%2^IntKind.u64.bits).toNat^^^(IntKind.u64.wrap n%2^IntKind.u64.bits).toNat:Nat):Int)= -1-n:=by
  rw[if_neg bF,show(2:Int)^IntKind.u64.bits=18446744073709551616 by rfl];exact s
 apply aI;simp[B];apply aD;simp;apply aF;refine fL.label ?_;simp;refine aY (ι:=Nat×Int) (λ⟨k,p⟩=>aQ [(3,.d (.int .u64 (M:Int))),(4,.d (.int .u8 p)),(5,.d (aJ k))]) (λ⟨k,p⟩=>aL []) (λ⟨k,p⟩=>(eR 8 M).length=k/\k<=8/\p=255) ?_ λ⟨k,p⟩ A=>?_
 .apply aM;refine aO (ι:=Nat) (λk=>aQ [(3,.d (.int .u64 (M:Int))),(4,.d (.int .u8 255)),(5,.d (aJ k))]) (λk=>aL []) (λk=>k<=8/\M<256^k) (λk=>k) 8 (aA q [3,4,5] [] (by simp[m])) (⟨A4 _,t⟩) λk a=>?_;apply aF;apply aP;simp;refine⟨λW=>?_,λW=>?_⟩
  .apply aG;simp;apply aM;apply eG;have a0:0<k:=aE;obtain⟨i,hi⟩:∃i,k=i+1:=⟨k-1,aE⟩;have F:i<8:=aE;have f:=ET M i F;obtain⟨D,r⟩:∃D,D=M / 256^i:=⟨_,rfl⟩;rw[<-r]at f;have H:((k:Int)- 1)=(i:Int):=aE;apply aI;simp[H,f];refine⟨aE,?_⟩;apply aK;simp;refine⟨λY=>?_,λY=>?_⟩
   .apply bG;simp;refine aAV.mk (k,255) (aA q [3,4,5] []) ?_;refine⟨uJ 8 M k a.2 (.inr ?_) a.1,a.1,rfl⟩;subst hi;have o:0<M / 256^i:=by rw[<-r];omega
    rw[C8];exact(D7 (D1 bF)).1 o |> λh=>by simpa using h
   .apply aG;simp;apply aI;simp;refine⟨aE,?_⟩;refine QT.mk (k-1) (aA q [3,4,5] [] (by simp[show((k-1:Nat):Int)=(k:Int)- 1 by omega])) ?_ ?_
    .refine⟨aE,?_⟩;rw[show k-1=i by omega];have o:M / 256^i<1:=by rw[<-r];omega
     simpa using(D8 (D1 bF)).1 o
    .omega
  .apply bG;simp;refine aAV.mk (k,255) (aA q [3,4,5] []) ?_;exact⟨uJ 8 M k a.2 (.inl aE) a.1,a.1,rfl⟩
 .apply aF;obtain⟨v,c2,O⟩:=A;have K:IntKind.u8.wrap (128+(k:Int))=128+(k:Int):=nL aE aE;have b:=Si (128+k) aE;rw[<-O]at b;rw[show((128+k:Nat):Int)=128+(k:Int)by omega,show 255-(128+k)=127-k by omega]at b;simp at b;apply aI;simp[K,b];refine⟨aE,?_⟩;apply dA;simp;refine⟨aE,?_⟩;apply aM;refine aO (ι:=Nat) (λj=>aQ [(3,.d (.int .u64 (M:Int))),(4,.d (.int .u8 p)),(6,.ow 6 0 (j+1)),(7,.d (aJ ((k:Int)- 1-(j:Int))))]) (λj=>aL [(6,.row false 1 (BS (127-k) ((eR 8 M).map (λd=>255-d)).reverse j))]) (λj=>j<=k) (λj=>k-j) 0 (aA q [3,4,6,7] [(29,6)] (hH:=by simp[bD,Ae])) (A5 _) λj S=>?_;apply aF;apply aP;simp;refine⟨λw=>?_,λw=>?_⟩
  .apply aG;simp;apply cR;have U:j<k:=aE;have G:(k:Int)- 1-(j:Int)=((k-1-j:Nat):Int):=aE;have f:=ET M (k-1-j) aE;have I:((eR 8 M).map (λd=>255-d)).reverse.length=k:=by rw[B5,A8];exact v
   have l:=Af (hd:=127-k) (L:=((eR 8 M).map (λd=>255-d)).reverse) (j:=j) aE;have E:((eR 8 M).map (λd=>255-d)).reverse[j]'aE=255-M / 256^(k-1-j)%256:=by
    have h:=FW 8 M (k-1-j) aE;rw[C2,E5];rw[A1 aE]at h;simp only[A8,v];rw[Option.some.inj h]
   rw[E]at l;have J:=Yk (M / 256^(k-1-j));have b:=Si (M / 256^(k-1-j)%256) (F7 _ bF);rw[<-O]at b;obtain⟨D,r⟩:∃D,D=M / 256^(k-1-j):=⟨_,rfl⟩;rw[<-r]at f J b l;obtain⟨N,z⟩:∃N,N=D%256:=⟨_,rfl⟩;rw[<-z]at J b l;simp at b;have g:=mU (hd:=127-k) (L:=((eR 8 M).map (λd=>255-d)).reverse) (j:=j) aE;have e:=nM (hd:=127-k) (L:=((eR 8 M).map (λd=>255-d)).reverse) (j:=j) aE;apply aI;simp[G,f,J,b,g,e];refine⟨aE,?_⟩;apply aI;simp;refine⟨aE,?_⟩;refine QT.mk (j+1) (aA q [3,4,6,7] [(45,6)] (by simp[show((k-1-j:Nat):Int)- 1=(k:Int)- 1-((j:Int)+1)by omega]) (by simp[l,bD])) ?_ ?_
   .omega
   .omega
  .apply bG;simp;apply aD;simp;apply aH;have U:j=k:=aE;subst U;have I:((eR 8 M).map (λd=>255-d)).reverse.length=j:=by rw[B5,A8];exact v
   have e:=nM (hd:=127-j) (L:=((eR 8 M).map (λd=>255-d)).reverse) (j:=j) aE;have g:=mU (hd:=127-j) (L:=((eR 8 M).map (λd=>255-d)).reverse) (j:=j) aE;rw[P,v,<-BT (hd:=127-j) (L:=((eR 8 M).map (λd=>255-d)).reverse) (j:=j) aE];simp[e,g];intro x b c Q;obtain⟨y,_,rfl⟩:=B3.1 b;simp[bD,aV]at Q;subst Q;rfl
theorem aA8(n:Int)(h:LY n):Ok prog 59 [aJ n] ⟨.own 1 ((nE n).map bD),true⟩:=by
 rcases F3 n 0 with q|q
 .exact Ym n q h
 .exact Yl n q h
end
section
attribute[local simp] mP mQ pC mR jX pD mS mT sS pE pF pG pH nJ
attribute[local simp] sT qJ pJ yF pK pL iJ lB.cond aX KZ fX bO sU sV mV yH yI yG mW nO tJ pM pN yJ yK sW pO pP Bc Bd vV vW oI
def zS:List LV:=dM ⟨⟨0,0,0,0,0,0,0,0⟩,A2 64 0,0⟩
theorem aA9:zS=A2 8 (.d (.int .u32 0))++A2 64 (.d (.int .u8 0))++[.d (.int .u64 0)]:=rfl
theorem Yn(σ:List (Nat×Nat)):zS.map (ren σ 8)=zS:=nO _ _
theorem Yo:zS.length=73:=gM rfl
theorem Yp:Ok prog 55 [] ⟨.d (.agg (kY vR)),true⟩:=by
 refine uF func55 rfl ntmps55 results55 λb X a=>?_;apply aD;simp;apply aD;simp[bE];apply aH;simp;rfl
theorem Um(s:bA)(h:s.length<=2000000000):Ok prog 57 [.str s] ⟨.own 1 ((rN s).map bD),true⟩:=by
 refine bL func57 rfl ntmps57 results57 λk X i=>?_;apply aD;simp;apply aF;have g:=uG (s.length:Int);have d:A6 (nE s.length).length ((nE s.length).map bD)=(nE s.length).map bD:=A0 bC;refine aU (og 5 (.plain ⟨.own 1 ((nE s.length).map bD),true⟩)) ?_;simp[d];refine⟨⟨aA8 _ (aCn aE),aE⟩,?_⟩;apply aH;have a:=uH s;have e:(nE s.length).map bD++s.map (λb=>DV.int .u8 b.toNat)=(rN s).map bD:=by simp[rN,bD]
 simp[a,e];refine⟨A0 (by simp[a]),?_⟩;intro x j c f;simp[bD,aV]at f;subst f;rfl
theorem Pi(st:iD)(x:bA)(M:st.B.length=64)(P:st.n+x.length<1099511627776):Ok prog 56 [.agg (kY st),.str x] ⟨.d (.agg (kY (yE st x))),true⟩:=by
 refine uF func56 rfl ntmps56 results56 λQ X C=>?_;apply aD;simp;apply cR;refine aO (ι:=iD×bA) (λ⟨p,y⟩=>aQ [(1,.d (.str y)),(2,.bx 2 0),(4,.bx 4 0)]) (λ⟨p,y⟩=>aL [(2,.box false (dM p)),(4,.box false zS)]) (λ⟨p,y⟩=>p.B.length=64/\yE p y=yE st x/\p.n+y.length=st.n+x.length) (λ⟨p,y⟩=>y.length) (st,x) (aA C [1,2,4] [(2,2),(4,4)] (hH:=by simp[aA9])) (⟨M,rfl,rfl⟩) λ⟨p,y⟩ m=>?_;apply aF;apply aP;simp;refine⟨λj=>?_,λj=>?_⟩
 .apply aG;simp;apply aM;apply aF;obtain⟨e,u,O⟩:=m;have a:=gM e;have z:=Ph (Pe e);have g:((p.n:Int)).tmod 64=((p.n%64:Nat):Int):=by rw[A9 aE];omega
  obtain⟨r,v⟩:∃r,r=p.n%64:=⟨_,rfl⟩;have K:r<64:=aE;rw[<-v]at g;have G:=Ia (n:=r) aE;have H:=oG (n:=r) aE;apply aI;simp[a,z,g,G,H];apply aF;have I:((64:Int)-(r:Int)).toNat=64-r:=aE;have D:=Uc e (k:=r) (y:=y.take (64-r)) (by rw[B2];omega);have b:(bE r p.B (y.take (64-r))).length=64:=by rw[CS (by rw[B2,e];omega),e]
  apply aI;simp[a,I,D];refine⟨aE,?_⟩;apply aF;have d:gT p y=min y.length (64-r):=by unfold gT;rw[<-v]
  have B:gT p y<=y.length:=aE;obtain⟨k,h⟩:∃k,k=gT p y:=⟨_,rfl⟩;rw[<-h]at d B;apply aI;simp[<-d];refine⟨aE,?_⟩;apply aF;have o:=gM (st:=⟨p.s,bE r p.B (y.take (64-r)),p.n⟩) b;have l:=Ph (Pe (st:=⟨p.s,bE r p.B (y.take (64-r)),p.n⟩) b);have A:=oG (n:=k) aE;have s:=oG (n:=p.n+k) aE;rw[show((p.n+k:Nat):Int)=(p.n:Int)+(k:Int)by omega]at s;have t:=Ud (st:=⟨p.s,bE r p.B (y.take (64-r)),p.n⟩) b (p.n+k);rw[show((p.n+k:Nat):Int)=(p.n:Int)+(k:Int)by omega]at t;apply aI;simp[o,l,A,s,t];apply aD;simp;refine⟨aE,?_⟩;apply aK;simp;refine⟨λL=>?_,λL=>?_⟩
  .have q:=gM (st:=⟨p.s,bE r p.B (y.take (64-r)),p.n+k⟩) b;have J:=aCZ ⟨p.s,bE r p.B (y.take (64-r)),p.n+k⟩;have E:=Ue ⟨p.s,bE r p.B (y.take (64-r)),p.n+k⟩ (comp p.s (bE r p.B (y.take (64-r))));refine fL.rd [] [[],[],[],[],[2],[],[2]] (og 35 (.gen ⟨[(2,0)],[],[],[(0,.box false (dM ⟨p.s,bE r p.B (y.take (64-r)),p.n+k⟩))],.d (.agg (JT (comp p.s (bE r p.B (y.take (64-r))))))⟩)) ?_;simp[q,J,E,BV,JU];refine⟨Mg ⟨p.s,bE r p.B (y.take (64-r)),p.n+k⟩ p.s b,?_⟩;have i:wT p y=⟨comp p.s (bE r p.B (y.take (64-r))),bE r p.B (y.take (64-r)),p.n+k⟩:=by unfold wT;rw[<-v,<-h,if_pos aE]
   refine QT.mk (wT p y,y.drop (gT p y)) (aA C [1,2,4] [(2,2),(4,4)] (by simp[<-h]) (by simp[i,Yn])) ?_ ?_
   .refine⟨XJ e y,(Ib j).trans u,?_⟩;show p.n+gT p y+(y.drop (gT p y)).length=_;rw[B4,<-h];omega
   .show(y.drop (gT p y)).length<y.length;have:=yC (st:=p) j;rw[B4];omega
  .apply aG;simp;have i:wT p y=⟨p.s,bE r p.B (y.take (64-r)),p.n+k⟩:=by unfold wT;rw[<-v,<-h,if_neg aE]
   refine QT.mk (wT p y,y.drop (gT p y)) (aA C [1,2,4] [(2,2),(4,4)] (by simp[<-h]) (by simp[i,Yn])) ?_ ?_
   .refine⟨XJ e y,(Ib j).trans u,?_⟩;show p.n+gT p y+(y.drop (gT p y)).length=_;rw[B4,<-h];omega
   .show(y.drop (gT p y)).length<y.length;have:=yC (st:=p) j;rw[B4];omega
 .apply bG;simp;apply aF;obtain⟨e,u,O⟩:=m;subst j;rw[XK]at u;have a:=gM e;have f:=BR e;have w:=qX e;have F:bE 0 zS (dM p)=dM p:=cW (by rw[Yo,a];exact A4 _);apply aI;simp[a,f,w,F,Yo];apply aH;subst u;simp[a,f];intro c N;obtain⟨k,n,rfl⟩:=XV _ c N;rfl
theorem aBa(a:iD)(m:bA)(F:yB m a)(hm:m.length<549755813888):Ok prog 58 [.agg (kY a)] ⟨.d (.agg (dO (oF m))),true⟩:=by
 refine uF func58 rfl ntmps58 results58 λw0 X r=>?_;obtain⟨t,h,_,_⟩:=id F;have f:=gM t;have v:=Ph (Pe t);obtain⟨n,hn⟩:∃n,n=m.length:=⟨_,rfl⟩;rw[<-hn]at h hm;have b:=F.hash;have K:IntKind.u64.wrap (8*(n:Int))=8*(n:Int):=oG (n:=8*n) aE;have s:DV.int .u8 128=eZ 128:=rfl;have D:DV.int .u8 0=eZ 0:=rfl;apply aD;simp;apply aD;simp[f,v,h,K];apply aD;simp;apply cR;refine aO (ι:=Nat) (λj=>aQ [(1,.bx 1 0),(2,.bx 2 0),(3,.d (.int .u64 (8*(n:Int)))),(4,.ow 4 0 (1+j))]) (λj=>aL [(1,.box false (dM a)),(2,.box false (oJ a.s 0)),(4,.row false 1 ((128::A2 j 0).map eZ))]) (λj=>j<=(119-n%64)%64) (λj=>64-j) 0 (aA r [1,2,3,4] [(1,1),(2,2),(11,4)] (hH:=by simp[s,D,Ag])) (A5 _) λj a1=>?_;apply eG;have J:=Ia (n:=n) aE;have w:((n:Int)+(1+(j:Int))).tmod 64=(((n+1+j)%64:Nat):Int):=by rw[A9 aE];omega
 apply aI;simp[f,v,h,J,w];refine⟨aE,?_⟩;apply aK;simp;refine⟨λh3=>?_,λh3=>?_⟩
 .apply aG;simp;apply aM;have d:A6 (1+j) (eZ 128::A2 j (eZ 0))=eZ 128::A2 j (eZ 0):=A0 jJ;have P:A2 j (eZ 0)++[eZ 0]=A2 (j+1) (eZ 0):=D9.symm;apply aI;simp;refine⟨aE,?_⟩;refine QT.mk (j+1) (aA r [1,2,3,4] [(1,1),(2,2),(22,4)] (by simp[C1]) (by simp[D,d,P])) ?_ ?_
  .omega
  .omega
 .apply bG;simp;apply eG;have Z:j=(119-n%64)%64:=aE;apply aI;simp;apply aM;refine aO (ι:=Nat) (λi=>aQ [(1,.bx 1 0),(2,.bx 2 0),(3,.d (.int .u64 (8*(n:Int)))),(4,.ow 4 0 (sI n i).length),(23,.d (aJ i))]) (λi=>aL [(1,.box false (dM a)),(2,.box false (oJ a.s 0)),(4,.row false 1 ((sI n i).map eZ))]) (λi=>i<=8) (λi=>8-i) 0 (aA r [1,2,3,4,23] [(1,1),(2,2),(4,4)] (by simp[Ah,<-Z,F4]) (by simp[Ah,<-Z])) (A5 _) λi a2=>?_;apply aD;simp;apply aF;apply aK;simp;refine⟨λh6=>?_,λh6=>?_⟩
  .apply aG;simp;apply cR;apply aD;simp;have B:=Me (8*n) (i:=i) aE;have d:A6 (sI n i).length ((sI n i).map eZ)=(sI n i).map eZ:=A0 bC;rw[show((8*n:Nat):Int)=8*(n:Int)by omega]at B;have W:DV.int .u8 (IntKind.u8.wrap (8*(n:Int) / 256^(7-i)))=eZ (A7 (8*n / 256^(7-i))):=by rw[<-Sh];simp
   have y:=BW n (i:=i) aE;apply aI;simp[B,d];refine⟨aE,?_⟩;apply aI;simp;refine⟨aE,?_⟩;refine QT.mk (i+1) (aA r [1,2,3,4,23] [(1,1),(2,2),(34,4)] (by simp[Ai n (show i<8 by omega)]) (by simp[Ai n (show i<8 by omega),W])) ?_ ?_
   .omega
   .omega
  .apply bG;simp;apply aF;have G:i=8:=aE;subst G;rw[yL];have u:=BR t;have a0:=qX t;have y:=BW n (i:=8) aE;rw[yL]at y;have d:A6 (rM n).length ((rM n).map eZ)=(rM n).map eZ:=A0 bC;have I:=aDW (rM n);have l:=Pi a (rM n) t aE;rw[h]at b;obtain⟨q,hq⟩:∃q,q=yE a (rM n):=⟨_,rfl⟩;rw[<-hq]at b l;have A:q.B.length=64:=by rw[hq];exact(Bb F _).1
   have p:=gM A;have N:=qX A;have o:bE 0 (dM a) (dM q)=dM q:=cW (by rw[f,p];exact A4 _);refine aU (og 39 (.plain ⟨.d (.agg (kY q)),true⟩)) ?_;simp[f,u,d,I,N,p,o];refine⟨⟨λ_ _=>⟨_,rfl⟩,l⟩,?_⟩;apply aD;simp;apply dA;simp;apply aM;refine aO (ι:=Nat) (λi=>aQ [(1,.bx 1 0),(2,.bx 2 0),(6,.bx 6 0),(40,.d (aJ i))]) (λi=>aL [(1,.box false (dM q)),(2,.box false (oJ a.s 0)),(6,.box false (oJ q.s i))]) (λi=>i<=32) (λi=>32-i) 0 (aA r [1,2,6,40] [(1,1),(2,2),(6,6)] (hH:=by simp[Ag,D])) (A5 _) λi Y=>?_;apply aD;simp;apply aF;apply aK;simp;refine⟨λE=>?_,λE=>?_⟩
   .apply aG;simp;apply cR;apply aD;simp;have M:((i:Int) / 4).toNat=i / 4:=aE;have O:((i:Int)).tmod 4=(i:Int)%4:=A9 aE;have S:=aC4 q (i:=i / 4) aE;have Q:((24:Int)- 8*((i:Int)%4)).toNat=24-8*(i%4):=aE;have g:=uI q.s (i:=i) aE;have z:=Md q.s (show i<32 by omega);apply aI;simp[M,O,S,Q,g,p];refine⟨aE,?_⟩;apply aI;simp;refine⟨aE,?_⟩;refine QT.mk (i+1) (aA r [1,2,6,40] [(1,1),(2,2),(6,6)] (hH:=by simp[z])) ?_ ?_
    .omega
    .omega
   .apply bG;simp;apply aF;have G:i=32:=aE;subst G;have g:=uI q.s (i:=32) aE;have L:A6 32 (oJ q.s 32)=oJ q.s 32:=A0 (by rw[g];exact A4 _);have x:=Mc q.s;rw[b]at x;have H:xC (oJ q.s 32)=some (dO (oF m)):=by rw[x];exact fS _
    have C:=uI a.s (i:=0) aE;have e:(dO (oF m)).length=32:=by simp[dO,nK]
    have o:bE 0 (oJ a.s 0) ((dO (oF m)).map LV.d)=(dO (oF m)).map LV.d:=cW (by rw[C,A8,e];exact A4 _);apply aI;simp[g,L,H,C,e,o];apply aH;have V:A6 32 ((dO (oF m)).map LV.d)=(dO (oF m)).map LV.d:=A0 (by simp[e]);have U:=fS (dO (oF m));simp[e,V,U];intro c hc;obtain⟨k,n,rfl⟩:=vT _ c hc;rfl
end
section
attribute[local simp] mP mQ pC mR jX pD mS mT sS pE pF pG pH nJ
attribute[local simp] sT qJ pJ yF pK pL iJ lB.cond aX KZ fX bO sU sV mV yH yI yG mW nO tJ pM pN yJ yK sW pO pP Bc Bd vV vW oI uD
theorem aCo(a:Nat)(parts:List bA)(S:parts.length<=200)(H:∀s∈parts,s.length<=2000000000):Ok prog 13 [aJ a,.sl (parts.map .str)] ⟨.d (.agg (dO (ER a parts))),true⟩:=by
 refine uF func13 rfl ntmps13 results13 λU X G=>?_;have P:DV.int .u8 (IntKind.u8.wrap (a:Int))=eZ (A7 a):=Sh a;have F:∀s∈parts,(rN s).length<=2000000009:=λs h=>by
  have:=H s h;have:=uG (s.length:Int);rw[uH];omega
 have E:∀i,(AO a (parts.take i)).length<=400000002000:=λi=>by
  have Q:=ES a (k:=2000000009) (parts:=parts.take i) λs h=>F s (C4 h);have J:(parts.take i).length<=200:=by rw[B2];omega
  have g:(parts.take i).length*2000000009<=200*2000000009:=E0 J (A4 _);omega
 have t:(dO (oF (AO a parts))).length=32:=by simp[dO,nK]
 apply aD;simp;apply aF;refine fL.rd [[12,5],[5,9],[5,9],[5,9],[5,9],[5],[12,14,9]] [[9],[],[],[12],[],[14],[5],[5]] (λ|9=>some<| .plain ⟨.d (.agg (kY vR)),true⟩|14=>some<| .plain ⟨.d (.agg (kY (yE vR [A7 a]))),true⟩|_=>none) ?_;simp[P];refine⟨⟨⟨⟨Yp,_,rfl⟩,Pi vR [A7 a] rfl (Nat.lt_of_lt_of_le (show 1<2 by decide) bF)⟩,qX (qY a parts 0 (A5 _)).1⟩,?_⟩;apply eG;have I:DV.int .u8 0=eZ 0:=rfl;have x:∀Z:List LV,Z.length=73->bE 0 Z (dM (yE vR [A7 a]))=dM (yE vR [A7 a]):=λZ p=>cW (by rw[p,gM (st:=yE vR [A7 a]) (qY a parts 0 (A5 _)).1];exact A4 _);apply aI;simp;apply aM;refine aO (ι:=Nat) (λi=>aQ [(4,.bx 4 0),(5,.bx 5 0),(15,.d (.sl (parts.map .str))),(16,.d (aJ parts.length)),(17,.d (aJ i))]) (λi=>aL [(4,.box false (A2 16 (.d (eZ 0)))),(5,.box false (dM (VZ a parts i)))]) (λi=>i<=parts.length) (λi=>parts.length-i) 0 (aA G [4,5,15,16,17] [(4,4),(5,5)] (hH:=by simp[I,VZ,x])) (A5 _) λi N=>?_;apply aD;simp;apply aF;apply aK;simp;refine⟨λg=>?_,λg=>?_⟩
 .apply aG;simp;apply cR;apply aD;simp[g];have j:=qY a parts i aE;have m:=qY a parts (i+1) aE;have u:=j.1;have e:=gM u;have d:=BR u;have O:=F parts[i] (B9 g);have z:=H parts[i] (B9 g);have C:A6 (rN parts[i]).length ((rN parts[i]).map bD)=(rN parts[i]).map bD:=A0 bC;have w:=aC1 (rN parts[i]);have A:VZ a parts (i+1)=yE (VZ a parts i) (toS (rN parts[i])):=by rw[VZ,A3,A1 g];rfl
  have o:=E i;have D:=Pi (VZ a parts i) (toS (rN parts[i])) u (by rw[j.2.1,JX];omega);rw[<-A]at D;have f:=gM m.1;have v:=qX m.1;have y:bE 0 (dM (VZ a parts i)) (dM (VZ a parts (i+1)))=dM (VZ a parts (i+1)):=cW (by rw[e,f];exact A4 _);refine fL.rd [[23]] [[],[],[23],[],[25],[5]] (λ|23=>some<| .plain ⟨.own 1 ((rN parts[i]).map bD),true⟩|25=>some<| .plain ⟨.d (.agg (kY (VZ a parts (i+1)))),true⟩|_=>none) ?_;simp[g,C,w,e,d,f,v];refine⟨⟨⟨Um _ z,λ_ _=>⟨_,rfl⟩⟩,D⟩,?_⟩;apply aI;simp;refine⟨aE,?_⟩;refine QT.mk (i+1) (aA G [4,5,15,16,17] [(4,4),(5,5)] (hH:=by simp[y])) ?_ ?_
  .omega
  .omega
 .apply bG;simp;apply aF;have M:i=parts.length:=aE;subst M;have j:=qY a parts parts.length (A4 _);have o:=E parts.length;rw[E7]at j o;have e:=gM j.1;have d:=BR j.1;have l:∀Z:List LV,Z.length<=32->bE 0 Z ((dO (oF (AO a parts))).map LV.d)=(dO (oF (AO a parts))).map LV.d:=λZ p=>cW (by rw[A8,t];exact p);refine aU (og 28 (.plain ⟨.d (.agg (dO (oF (AO a parts)))),true⟩)) ?_;simp[e,d,t,l];refine⟨aBa _ _ j aE,?_⟩;apply aF;have K:((dO (oF (AO a parts))).map LV.d).length=32:=by rw[A8,t]
  have r:A6 16 ((dO (oF (AO a parts))).map LV.d)=(dO (ER a parts)).map LV.d:=by simp[dO,ER]
  have q:=fS (dO (ER a parts));have b:(dO (ER a parts)).length=16:=by simp[dO,Ad]
  have l:∀Z:List LV,Z.length<=16->bE 0 Z ((dO (ER a parts)).map LV.d)=(dO (ER a parts)).map LV.d:=λZ p=>cW (by rw[A8,b];exact p);apply aI;simp[t,r,q,b,l];apply aH;have B:A6 16 ((dO (ER a parts)).map LV.d)=(dO (ER a parts)).map LV.d:=A0 (by simp[b]);simp[b,B,q];intro c L;obtain⟨k,n,rfl⟩:=vT _ c L;rfl
theorem Yq:Wg=wD KS:=by rfl
theorem oS(x:BitVec 32)(k:Nat)(a:k<=32):Ok prog 266 [eP x,aJ k] ⟨.d (eP (AN x k)),true⟩:=by
 refine bL func266 rfl ntmps266 results266 λc X b=>?_;apply aD;simp;apply aF;have e:((32:Int)-(k:Int)).toNat=32-k:=aE;refine fL.rd [] [] (λ_=>none) ?_;simp[e];refine⟨aE,?_⟩;apply aH;simp[eP,AN]
theorem Un(m:bA)(C:m.length<=600000000000):Ok prog 264 [.sl (m.map eZ)] ⟨.own 1 ((m++rM m.length).map eZ),true⟩:=by
 refine bL func264 rfl ntmps264 results264 λD X h=>?_;have d:DV.int .u8 128=eZ 128:=rfl;have r:DV.int .u8 0=eZ 0:=rfl;obtain⟨n,f⟩:∃n,n=m.length:=⟨_,rfl⟩;have k:IntKind.u64.wrap (8*(n:Int))=8*(n:Int):=oG (n:=8*n) aE;have l:=oG (n:=n) aE;have p:A6 n (m.map eZ)=m.map eZ:=A0 (by simp[f]);apply aD;simp;apply aD;simp[<-f];refine⟨aE,?_⟩;apply aD;simp[<-f];refine⟨aE,?_⟩;apply cR;refine aO (ι:=Nat) (λj=>aQ [(0,.d (.sl (m.map eZ))),(3,.ow 3 0 (n+1+j))]) (λj=>aL [(3,.row false 1 ((m++128::A2 j 0).map eZ))]) (λj=>j<=(119-n%64)%64) (λj=>64-j) 0 (aA h [0,3] [(11,3)] (hH:=by simp[d,r,p])) (A5 _) λj y=>?_;apply eG;have e:((n:Int)+1+(j:Int)).tmod 64=(((n+1+j)%64:Nat):Int):=by rw[A9 aE];omega
 apply aI;simp[e];apply aK;simp;refine⟨λu=>?_,λu=>?_⟩
 .apply aG;simp;apply aM;have b:A6 (n+1+j) (m.map eZ++eZ 128::A2 j (eZ 0))=m.map eZ++eZ 128::A2 j (eZ 0):=A0 jJ;have o:A2 j (eZ 0)++[eZ 0]=A2 (j+1) (eZ 0):=D9.symm;apply aI;simp;refine⟨aE,?_⟩;refine QT.mk (j+1) (aA h [0,3] [(18,3)] (by simp[C1]) (by simp[r,b,o])) ?_ ?_
  .omega
  .omega
 .apply bG;simp;apply aF;have t:j=(119-n%64)%64:=aE;apply aI;simp[<-f,l,k];apply dA;simp;apply aM;refine aO (ι:=Nat) (λi=>aQ [(0,.d (.sl (m.map eZ))),(3,.ow 3 0 (n+(sI n i).length)),(4,.d (.int .u64 (8*(n:Int)))),(5,.d (aJ i))]) (λi=>aL [(3,.row false 1 ((m++sI n i).map eZ))]) (λi=>i<=8) (λi=>8-i) 0 (aA h [0,3,4,5] [(3,3)] (by simp[Ah,<-t,F4,Nat.add_left_comm]) (by simp[Ah,<-t])) (A5 _) λi z=>?_;apply aF;apply aP;simp;refine⟨λv=>?_,λv=>?_⟩
  .apply aG;simp;apply cR;have g:=Me (8*n) (i:=i) aE;have b:A6 (n+(sI n i).length) (m.map eZ++(sI n i).map eZ)=m.map eZ++(sI n i).map eZ:=A0 jJ;rw[show((8*n:Nat):Int)=8*(n:Int)by omega]at g;have q:DV.int .u8 (IntKind.u8.wrap (8*(n:Int) / 256^(7-i)))=eZ (A7 (8*n / 256^(7-i))):=by rw[<-Sh];simp
   have A:=BW n (i:=i) aE;apply aI;simp[g,b];refine⟨aE,?_⟩;apply aI;simp;refine⟨aE,?_⟩;refine QT.mk (i+1) (aA h [0,3,4,5] [(35,3)] (by simp[Ai n (show i<8 by omega),C1]) (by simp[Ai n (show i<8 by omega),q])) ?_ ?_
   .omega
   .omega
  .apply bG;simp;apply aD;simp;apply aH;have w:i=8:=aE;subst w;have b:A6 (n+(sI n 8).length) (m.map eZ++(sI n 8).map eZ)=m.map eZ++(sI n 8).map eZ:=A0 jJ;rw[yL]at b;simp[yL,<-f,b];intro x B c s;rcases B with⟨a,_,rfl⟩|⟨a,_,rfl⟩<;>(rw[nJ]at s;rw[List.mem_singleton.1 s];rfl)
set_option maxRecDepth 100000
theorem Pj(b:List UInt8)(E:b.length=64):Ok prog 265 [.sl (b.map eZ)] ⟨.d (.agg (wD (dZ b 64))),true⟩:=by
 refine uF func265 rfl ntmps265 results265 λS X j=>?_;have P:∀i,i<64->∀h:i<b.length,eZ b[i]=eZ (b.getD i 0):=λi _ h=>by rw[A3,A1 h];rfl
 apply aD;simp;apply aD;simp;apply dA;simp;apply aM;refine aO (ι:=Nat) (λt=>aQ [(0,.d (.sl (b.map eZ))),(2,.bx 2 0),(3,.bx 3 0),(4,.d (aJ t))]) (λt=>aL [(2,.box false (nN b 0)),(3,.box false (nN b t))]) (λt=>t<=16) (λt=>16-t) 0 (aA j [0,2,3,4] [(2,2),(3,3)] (hH:=by simp[FU])) (A5 _) λt G=>?_;apply aF;apply aP;simp;refine⟨λC=>?_,λC=>?_⟩
 .apply aG;simp;apply cR;have e:=rO b (t:=t) aE;have w:(4*(t:Int)).toNat=4*t:=aE;have y:(4*(t:Int)+1).toNat=4*t+1:=aE;have z:(4*(t:Int)+2).toNat=4*t+2:=aE;have A:(4*(t:Int)+3).toNat=4*t+3:=aE;have L:4*t<b.length:=aE;have M:4*t+1<b.length:=aE;have N:4*t+2<b.length:=aE;have O:4*t+3<b.length:=aE;have a:=FT b (show t<64 by omega) _ (DS b (t:=t) aE);obtain⟨Q,s⟩:∃q,b[4*t]? =some q:=⟨_,A1 L⟩;obtain⟨q1,u⟩:∃q,b[4*t+1]? =some q:=⟨_,A1 M⟩;obtain⟨q2,g⟩:∃q,b[4*t+2]? =some q:=⟨_,A1 N⟩;obtain⟨q3,v⟩:∃q,b[4*t+3]? =some q:=⟨_,A1 O⟩;simp only[JN,A3,s,u,g,v,E8]at a;refine fL.rd [] [[],[],[],[],[],[],[],[],[],[],[],[],[],[],[],[],[],[],[],[],[],[],[],[],[],[],[],[],[],[],[],[],[],[],[],[3]] (λ_=>none) ?_;simp[e,w,y,z,A,s,u,g,v,E];refine⟨by(repeat' with_reducible apply And.intro)<;>omega,?_⟩;apply aI;simp;refine⟨aE,?_⟩;refine QT.mk (t+1) (aA j [0,2,3,4] [(2,2),(3,3)] (hH:=by simp[a])) ?_ ?_
  .omega
  .omega
 .apply bG;simp;apply dA;simp;apply aM;refine aO (ι:=Nat) (λt=>aQ [(0,.d (.sl (b.map eZ))),(2,.bx 2 0),(3,.bx 3 0),(5,.d (aJ t))]) (λt=>aL [(2,.box false (nN b 0)),(3,.box false (nN b t))]) (λt=>16<=t/\t<=64) (λt=>64-t) 16 (aA j [0,2,3,5] [(2,2),(3,3)] (hH:=by simp[show t=16 by omega])) (⟨A4 _,bF⟩) λt H=>?_;apply aF;apply aP;simp;refine⟨λD=>?_,λD=>?_⟩
  .apply aG;simp;apply cR;apply aF;have e:=rO b (t:=t) aE;have p:((t:Int)- 15).toNat=t-15:=aE;have J:((t:Int)- 2).toNat=t-2:=aE;have r:((t:Int)- 16).toNat=t-16:=aE;have K:((t:Int)- 7).toNat=t-7:=aE;have k:=pI b (t:=t) (i:=t-15) aE;have g:=pI b (t:=t) (i:=t-2) aE;have l:=pI b (t:=t) (i:=t-16) aE;have B:=pI b (t:=t) (i:=t-7) aE;have a:=FT b (show t<64 by omega) _ (FS b (t:=t) aE);simp only[aA0,aA1]at a;refine fL.rd [[],[],[],[],[],[55],[55],[55],[55],[],[],[55,60],[55,60],[55,60],[55,60],[55,60]] [[],[],[],[],[55],[],[],[],[],[60]] (λ|55=>some<| .plain ⟨.d (eP (AN (wd (dZ b t) (t-15)) 7)),true⟩|60=>some<| .plain ⟨.d (eP (AN (wd (dZ b t) (t-15)) 18)),true⟩|_=>none) ?_;simp[e,p,k];refine⟨by(repeat' with_reducible apply And.intro)<;>first|omega|exact oS _ 7 bF|exact oS _ 18 bF,?_⟩;apply aF;refine fL.rd [[],[],[],[],[],[72],[72],[72],[72],[],[],[72,77],[72,77],[72,77],[72,77],[72,77]] [[],[],[],[],[72],[],[],[],[],[77]] (λ|72=>some<| .plain ⟨.d (eP (AN (wd (dZ b t) (t-2)) 17)),true⟩|77=>some<| .plain ⟨.d (eP (AN (wd (dZ b t) (t-2)) 19)),true⟩|_=>none) ?_;simp[e,J,g];refine⟨by(repeat' with_reducible apply And.intro)<;>first|omega|exact oS _ 17 bF|exact oS _ 19 bF,?_⟩;refine fL.rd [] [[],[],[],[],[],[],[],[],[],[],[],[],[],[],[],[3]] (λ_=>none) ?_;simp[e,r,K,l,B];refine⟨aE,?_⟩;apply aI;simp;refine⟨aE,?_⟩;refine QT.mk (t+1) (aA j [0,2,3,5] [(2,2),(3,3)] (hH:=by simp[a])) ?_ ?_
   .omega
   .omega
  .apply bG;simp;apply aF;have I:t=64:=aE;subst I;have f:=rO b (t:=0) aE;have d:=fY b 64;have n:A6 64 (nN b 64)=wL (dZ b 64):=by rw[Ma,JW _ (B8 d)]
   have m:bE 0 (nN b 0) (wL (dZ b 64))=wL (dZ b 64):=cW (by rw[pY,d,f];exact A4 _);apply aI;simp[n,vW,m,f,rO,pY,d];apply aH;have o:=JW (dZ b 64) (B8 d);simp[o,pY,d];intro c F;obtain⟨x,_,rfl⟩:=B3.1 F;rfl
end
section
attribute[local simp] mP mQ pC mR jX pD mS mT sS pE pF pG pH nJ
attribute[local simp] sT qJ pJ yF pK pL iJ lB.cond aX KZ fX bO sU sV mV yH yI yG mW nO tJ pM pN yJ yK sW pO pP Bc Bd vV vW oI uD
theorem Uo(m:List UInt8){q:Nat}(h:64*(q+1)<=m.length):((m.drop (64*q)).take 64).length=64:=by rw[B2,B4];omega
theorem JY(s:H8):CR s=[.d (eP s.a),.d (eP s.b),.d (eP s.c),.d (eP s.d),.d (eP s.e),.d (eP s.f),.d (eP s.g),.d (eP s.h)]:=rfl
theorem aC6{m:List UInt8}:∃K,(m++rM m.length).length=64*K:=⟨(m++rM m.length).length / 64,by have:=XH m.length;rw[B7];omega⟩
theorem aBb(n:Nat):(rM n).length<=72:=by rw[<-yL,BW n (A4 _)];omega
set_option maxRecDepth 100000
theorem Yr(m:bA)(hm:m.length<=500000000000):Ok prog 196 [.sl (m.map eZ)] ⟨.d (.agg (dO (oF m))),true⟩:=by
 refine uF func196 rfl ntmps196 results196 λw0 X l=>?_;have Y:DV.int .u8 0=eZ 0:=rfl;have z:(wD KS).length=64:=rfl;have a3:=aBb m.length;have f:=Un m aE;obtain⟨K,hK⟩:=aC6 (m:=m);have b:oF m=qF (vQ iv (m++rM m.length) K):=by unfold oF;rw[hK,Nat.mul_div_cancel_left _ bF]
 have A:(m++rM m.length).length<=500000000072:=by rw[B7];omega
 obtain⟨P,hP⟩:∃P,P=m++rM m.length:=⟨_,rfl⟩;rw[<-hP]at f hK b A;have E:[LV.d (.int .u32 1779033703),.d (.int .u32 3144134277),.d (.int .u32 1013904242),.d (.int .u32 2773480762),.d (.int .u32 1359893119),.d (.int .u32 2600822924),.d (.int .u32 528734635),.d (.int .u32 1541459225)]=CR iv:=rfl;apply aD;simp;apply aD;simp[bE];refine cP (og 22 (.plain ⟨.own 1 (P.map eZ),true⟩)) ?_;simp;refine⟨f,?_⟩;apply dA;simp;apply aM;refine aO (ι:=Nat) (λq=>aQ [(2,.bx 2 0),(3,.bx 3 0),(4,.ow 4 0 P.length),(5,.d (aJ (64*(q:Int))))]) (λq=>aL [(2,.box false (oJ iv 0)),(3,.box false (CR (vQ iv P q))),(4,.row false 1 (P.map eZ))]) (λq=>q<=K) (λq=>K-q) 0 (aA l [2,3,4,5] [(2,2),(3,3),(22,4)] (hH:=by simp[Ag,Y,vQ,E])) (A5 _) λq a1=>?_;apply aF;apply aP;simp;refine⟨λh4=>?_,λh4=>?_⟩
 .apply aG;simp;apply cR;apply aF;have hq:q<K:=aE;have e1:(64*(q:Int)).toNat=64*q:=aE;have e2:(64*(q:Int)+64-64*(q:Int)).toNat=64:=aE;have p:=Uo P (q:=q) aE;obtain⟨B,y⟩:∃B,B=(P.drop (64*q)).take 64:=⟨_,rfl⟩;have a:vQ iv P (q+1)=comp (vQ iv P q) B:=by rw[y];rfl
  have G:A6 64 (F2 (64*q) (P.map eZ))=B.map eZ:=by rw[y,List.map_take,List.map_drop]
  rw[<-y]at p;have o:=Pj B p;have j:=fY B 64;have h:comp (vQ iv P q) B=(vQ iv P q).add (sH (vQ iv P q) KS (dZ B 64) 64):=rfl;obtain⟨V,hV⟩:∃V,V=dZ B 64:=⟨_,rfl⟩;rw[<-hV]at o j h;obtain⟨s,hs⟩:∃s,s=vQ iv P q:=⟨_,rfl⟩;rw[<-hs]at a h;have g:(wL V).length=64:=by rw[pY,j]
  have C:(wD V).length=64:=by rw[XT,j]
  have I:∀Z:List LV,Z.length<=64->bE 0 Z (wL V)=wL V:=λZ hZ=>cW (by rw[g];exact hZ);refine aU (og 34 (.plain ⟨.d (.agg (wD V)),true⟩)) ?_;simp[e1,e2,G,g,C,I];refine⟨by(repeat' with_reducible apply And.intro)<;>first|exact o|omega,?_⟩;apply aF;refine fL.rd [] [] (λ_=>none) ?_;simp[<-hs,JY];apply dA;simp;apply aM;refine aO (ι:=Nat) (λt=>aQ [(2,.bx 2 0),(3,.bx 3 0),(4,.ow 4 0 P.length),(5,.d (aJ (64*(q:Int)))),(6,.bx 6 0),(7,.d (eP (sH s KS V t).a)),(8,.d (eP (sH s KS V t).b)),(9,.d (eP (sH s KS V t).c)),(10,.d (eP (sH s KS V t).d)),(11,.d (eP (sH s KS V t).e)),(12,.d (eP (sH s KS V t).f)),(13,.d (eP (sH s KS V t).g)),(14,.d (eP (sH s KS V t).h)),(15,.d (aJ t))]) (λt=>aL [(2,.box false (oJ iv 0)),(3,.box false (CR s)),(4,.row false 1 (P.map eZ)),(6,.box false (wL V))]) (λt=>t<=64) (λt=>64-t) 0 (aA l [2,3,4,5,6,7,8,9,10,11,12,13,14,15] [(2,2),(3,3),(4,4),(6,6)] (by simp[sH]) (by simp[JY])) (A5 _) λt a2=>?_;apply aF;apply aP;simp;refine⟨λh9=>?_,λh9=>?_⟩
  .apply aG;simp;apply cR;apply aF;have hk:=XU KS (i:=t) (by rw[Yj];omega);have hw:=JV V (i:=t) aE;obtain⟨r,hr⟩:∃r,r=sH s KS V t:=⟨_,rfl⟩;have N:sH s KS V (t+1)=XG r (KS.getD t 0) (V.getD t 0):=by rw[hr];rfl
   rw[<-hr];refine fL.rd [[57,59,62],[],[],[57],[],[62],[57,59],[],[],[],[57,59,62],[57,59,62],[57,59,62],[57,59,62],[57,59,62],[57,59,62],[57,59,62],[57,59,62],[],[57,59,62],[57,59,62],[57,59,62],[],[57,59,62],[57,59,62],[57,59,62]] [[],[],[57],[],[59],[],[],[62]] (λ|57=>some<| .plain ⟨.d (eP (AN r.e 6)),true⟩|59=>some<| .plain ⟨.d (eP (AN r.e 11)),true⟩|62=>some<| .plain ⟨.d (eP (AN r.e 25)),true⟩|_=>none) ?_;simp[Yq,hk,hw,z,g];refine⟨by(repeat' with_reducible apply And.intro)<;>first|omega|exact oS _ 6 bF|exact oS _ 11 bF|exact oS _ 25 bF,?_⟩;refine cP (λ|83=>some<| .plain ⟨.d (eP (AN r.a 2)),true⟩|85=>some<| .plain ⟨.d (eP (AN r.a 13)),true⟩|88=>some<| .plain ⟨.d (eP (AN r.a 22)),true⟩|_=>none) ?_;simp;refine⟨by(repeat' with_reducible apply And.intro)<;>first|omega|exact oS _ 2 bF|exact oS _ 13 bF|exact oS _ 22 bF,?_⟩;apply aD;simp;apply aD;simp;apply aD;simp;apply aD;simp;apply aD;simp;apply aD;simp;apply aD;simp;apply aI;simp;apply aI;simp;refine⟨aE,?_⟩;refine QT.mk (t+1) (aA l [2,3,4,5,6,7,8,9,10,11,12,13,14,15] [(2,2),(3,3),(4,4),(6,6)] (by simp[N,XG,LU])) ?_ ?_
   .omega
   .omega
  .apply bG;simp;have ht:t=64:=aE;subst ht;have D:vQ iv P (q+1)=s.add (sH s KS V 64):=by rw[a,h]
   apply aI;simp[JY,bE];apply aI;simp;refine⟨aE,?_⟩;refine QT.mk (q+1) (aA l [2,3,4,5] [(2,2),(3,3),(4,4)] (by simp[Int.mul_add]) (by simp[D,JY,H8.add])) ?_ ?_
   .omega
   .omega
 .apply bG;simp;apply aF;have hq:q=K:=aE;subst hq;obtain⟨S,hS⟩:∃S,S=vQ iv P q:=⟨_,rfl⟩;rw[<-hS];rw[<-hS]at b;apply aI;simp;apply dA;simp;apply aM;refine aO (ι:=Nat) (λi=>aQ [(2,.bx 2 0),(3,.bx 3 0),(18,.bx 18 0),(19,.d (aJ i))]) (λi=>aL [(2,.box false (oJ iv 0)),(3,.box false (CR S)),(18,.box false (oJ S i))]) (λi=>i<=32) (λi=>32-i) 0 (aA l [2,3,18,19] [(2,2),(3,3),(18,18)] (hH:=by simp[Ag,Y])) (A5 _) λi a0=>?_;apply aF;apply aP;simp;refine⟨λx=>?_,λx=>?_⟩
  .apply aG;simp;apply cR;have L:((i:Int) / 4).toNat=i / 4:=aE;have M:((i:Int)).tmod 4=(i:Int)%4:=A9 aE;have Q:=Yd S (i:=i / 4) aE;have O:((24:Int)- 8*((i:Int)%4)).toNat=24-8*(i%4):=aE;have e:=uI S (i:=i) aE;have v:=Md S (show i<32 by omega);apply aI;simp[L,M,Q,O,e,BV];refine⟨aE,?_⟩;apply aI;simp;refine⟨aE,?_⟩;refine QT.mk (i+1) (aA l [2,3,18,19] [(2,2),(3,3),(18,18)] (hH:=by simp[v])) ?_ ?_
   .omega
   .omega
  .apply bG;simp;apply aF;have hi:i=32:=aE;subst hi;have e:=uI S (i:=32) aE;have H:A6 32 (oJ S 32)=oJ S 32:=A0 (by rw[e];exact A4 _);have u:=Mc S;rw[<-b]at u;have F:xC (oJ S 32)=some (dO (oF m)):=by rw[u];exact fS _
   have w:=uI iv (i:=0) aE;have d:(dO (oF m)).length=32:=by simp[dO,nK]
   have J:bE 0 (oJ iv 0) ((dO (oF m)).map LV.d)=(dO (oF m)).map LV.d:=cW (by rw[w,A8,d];exact A4 _);apply aI;simp[e,H,F,w,d,J];apply aH;have W:A6 32 ((dO (oF m)).map LV.d)=(dO (oF m)).map LV.d:=A0 (by simp[d]);have U:=fS (dO (oF m));simp[d,W,U];intro c hc;obtain⟨k,n,rfl⟩:=vT _ c hc;rfl
end
section
attribute[local simp] mP mQ pC mR jX pD mS mT sS pE pF pG pH nJ
attribute[local simp] sT qJ pJ yF pK pL iJ lB.cond aX KZ fX bO sU sV mV yH yI yG mW nO tJ pM pN yJ yK sW pO pP Bc Bd vV vW oI uD
theorem aD0(x:Nat)(h:x<256):bD x=eZ (A7 x):=by
 unfold bD eZ;rw[UInt8.toNat_ofNat',Nat.mod_eq_of_lt h]
theorem aBc(n:Int):∀x∈nE n,x<256:=λx b=>by
 have e:=FQ 8 (lX n);have c:=BQ 8 (lX n);unfold nE at b;rcases D2.1 b with h|h
 .rw[h];split<;>omega
 .obtain⟨d,a,rfl⟩:=B3.1 h;have:=c d (List.mem_reverse.1 a);split<;>omega
theorem aBd(s:List UInt8):∀x∈rN s,x<256:=λx a=>by
 rcases F0.1 a with h|h
 .exact aBc _ x h
 .obtain⟨b,_,rfl⟩:=B3.1 h;exact b.toNat_lt
theorem Up{l:List Nat}(h:∀x∈l,x<256):l.map bD=(toS l).map eZ:=by
 unfold toS;rw[D6];exact E1 λx a=>aD0 x (h x a)
theorem Pk(s:bA)(g:s.length<=2000000000):Ok prog 138 [.str s] ⟨.own 1 ((rN s).map bD),true⟩:=by
 refine bL func138 rfl ntmps138 results138 λj X h=>?_;apply aD;simp;apply aF;have f:=uG (s.length:Int);have b:A6 (nE s.length).length ((nE s.length).map bD)=(nE s.length).map bD:=A0 bC;refine aU (og 5 (.plain ⟨.own 1 ((nE s.length).map bD),true⟩)) ?_;simp[b];refine⟨by(repeat' with_reducible apply And.intro)<;>first|omega|exact XL _ (aCn aE),?_⟩;apply aH;have a:=uH s;have e:(nE s.length).map bD++s.map eZ=(rN s).map bD:=by simp[rN,bD,eZ]
 simp[a,e];refine⟨A0 (by simp[a]),?_⟩;intro x i c d;simp[bD,aV]at d;subst d;rfl
theorem Ys(a:Nat)(parts:List bA)(w:parts.length<=200)(m:∀s∈parts,s.length<=2000000000):Ok prog 130 [aJ a,.sl (parts.map .str)] ⟨.own 1 ((AO a parts).map eZ),true⟩:=by
 refine bL func130 rfl ntmps130 results130 λz X l=>?_;have u:DV.int .u8 (IntKind.u8.wrap (a:Int))=eZ (A7 a):=Sh a;have p:∀i,(AO a (parts.take i)).length<=400000002000:=λi=>by
  have v:=ES a (k:=2000000009) (parts:=parts.take i) λs h=>by
   have:=m s (C4 h);have:=uG (s.length:Int);rw[uH];omega
  have o:(parts.take i).length<=200:=by rw[B2];omega
  have j:(parts.take i).length*2000000009<=200*2000000009:=E0 o (A4 _);omega
 apply aD;simp;apply aD;simp[u];apply dA;simp;apply aM;refine aO (ι:=Nat) (λi=>aQ [(0,.d (aJ a)),(1,.d (.sl (parts.map .str))),(5,.ow 5 0 (AO a (parts.take i)).length),(6,.d (aJ i))]) (λi=>aL [(5,.row false 1 ((AO a (parts.take i)).map eZ))]) (λi=>i<=parts.length) (λi=>parts.length-i) 0 (aA l [0,1,5,6] [(9,5)] (by simp[AO]) (by simp[AO])) (A5 _) λi t=>?_;apply aF;apply aP;simp;refine⟨λj=>?_,λj=>?_⟩
 .apply aG;simp;apply cR;have b:i<parts.length:=aE;have c:AO a (parts.take (i+1))=AO a (parts.take i)++toS (rN parts[i]):=by rw[Mb a parts b,A3,A1 b];rfl
  have q:=p i;have d:=m parts[i] (B9 b);have r:=uG (parts[i].length:Int);have e:=uH parts[i];have f:=Up (aBd parts[i]);have n:=Pk parts[i] d;have g:A6 (AO a (parts.take i)).length ((AO a (parts.take i)).map eZ)=(AO a (parts.take i)).map eZ:=A0 bC;rw[f]at n;rw[<-JX]at e;refine aU (og 21 (.plain ⟨.own 1 ((toS (rN parts[i])).map eZ),true⟩)) ?_;simp[b,g];refine⟨by(repeat' with_reducible apply And.intro)<;>first|exact n|omega|(intros;rfl),?_⟩;apply aI;simp;refine⟨aE,?_⟩;refine QT.mk (i+1) (aA l [0,1,5,6] [(22,5)] (by simp[c]) (by simp[c])) ?_ ?_
  .omega
  .omega
 .apply bG;simp;apply aD;simp;apply aH;have b:i=parts.length:=aE;subst b;rw[E7];simp;intro x y;rfl
def gD(h:List UInt8)(i:Nat):List LV:=((h.take i++A2 (16-i) 0).map eZ).map .d
theorem Pl(h:List UInt8):gD h 0=A2 16 (.d (eZ 0)):=by simp[gD]
theorem If(h:List UInt8)(b:h.length=32){i:Nat}(a:i<=16):(gD h i).length=16:=by simp[gD];omega
theorem Uq(h:List UInt8)(e:h.length=32){i:Nat}(d:i<16):bE i (gD h i) [.d (eZ (h.getD i 0))]=gD h (i+1):=by
 have a:i<h.length:=aE;have c:(h.take i).length=i:=by rw[B2];omega
 have b:=uC (A:=h.take i) (B:=0::A2 (15-i) 0) (new:=[h[i]]) (k:=i) (n:=0) c;rw[D5]at b;unfold gD;rw[A3,A1 a,E8,show [LV.d (eZ h[i])]=([h[i]].map eZ).map .d by rfl,pB,pB,show 16-i=15-i+1 by omega,C5,b,<-B1 a,show 16-(i+1)=15-i by omega,E4];rfl
theorem Ur(h:List UInt8)(a:h.length=32):gD h 16=(dO (h.take 16)).map .d:=by simp[gD,dO]
theorem Us(σ:List (Nat×Nat))(h:List UInt8)(i:Nat):(gD h i).map (ren σ 8)=gD h i:=vU _ _
theorem Mi(σ:List (Nat×Nat)):(ren σ 8∘LV.d)=LV.d:=rfl
theorem Pm(m:bA)(A:m.length<=500000000000):Ok prog 129 [.sl (m.map eZ)] ⟨.d (.agg (dO ((oF m).take 16))),true⟩:=by
 refine uF func129 rfl ntmps129 results129 λB X u=>?_;have v:DV.int .u8 0=eZ 0:=rfl;have e:(dO (oF m)).length=32:=by simp[dO,nK]
 have l:((dO (oF m)).map LV.d).length=32:=by rw[A8,e]
 have p:∀Z:List LV,Z.length<=32->bE 0 Z ((dO (oF m)).map LV.d)=(dO (oF m)).map LV.d:=λZ j=>cW (by rw[l];exact j);apply aD;simp;refine cP (og 7 (.plain ⟨.d (.agg (dO (oF m))),true⟩)) ?_;simp[p,e];refine⟨Yr m A,?_⟩;apply aD;simp[bE];apply dA;simp;apply aM;refine aO (ι:=Nat) (λi=>aQ [(2,.bx 2 0),(3,.bx 3 0),(4,.bx 4 0),(5,.d (aJ i))]) (λi=>aL [(2,.box false (A2 16 (.d (eZ 0)))),(3,.box false ((dO (oF m)).map .d)),(4,.box false (gD (oF m) i))]) (λi=>i<=16) (λi=>16-i) 0 (aA u [2,3,4,5] [(2,2),(3,3),(4,4)] (hH:=by simp[v,Pl,Mi])) (A5 _) λi z=>?_;apply aF;apply aP;simp;refine⟨λw=>?_,λw=>?_⟩
 .apply aG;simp;apply cR;have f:(dO (oF m))[i]? =some (eZ ((oF m).getD i 0)):=by
   have h:i<(oF m).length:=(by rw[nK];omega);unfold dO;rw[D0,A1 h,A3,A1 h];rfl
  have d:=Uq (oF m) (nK m) (i:=i) aE;simp only[A3]at d;have b:=If (oF m) (nK m) (i:=i) aE;apply aI;simp[f,b,e];refine⟨aE,?_⟩;apply aI;simp;refine⟨aE,?_⟩;refine QT.mk (i+1) (aA u [2,3,4,5] [(2,2),(3,3),(4,4)] (hH:=by simp[d,Mi,Us])) ?_ ?_
  .omega
  .omega
 .apply bG;simp;apply aF;have y:i=16:=aE;subst y;have b:=If (oF m) (nK m) (i:=16) aE;have r:A6 16 (gD (oF m) 16)=gD (oF m) 16:=A0 (by rw[b];exact A4 _);have q:=Ur (oF m) (nK m);have o:xC (gD (oF m) 16)=some (dO ((oF m).take 16)):=by rw[q];exact fS _
  have a:(dO ((oF m).take 16)).length=16:=by simp[dO,nK]
  have g:∀Z:List LV,Z.length<=16->bE 0 Z ((dO ((oF m).take 16)).map LV.d)=(dO ((oF m).take 16)).map LV.d:=λZ j=>cW (by rw[A8,a];exact j);apply aI;simp[b,r,o,a,g];apply aH;have t:A6 16 ((dO ((oF m).take 16)).map LV.d)=(dO ((oF m).take 16)).map LV.d:=A0 (by rw[A8,a];exact A4 _);have s:=fS (dO ((oF m).take 16));simp[a,t,s];intro c x;obtain⟨k,n,rfl⟩:=vT _ c x;rfl
theorem aBe(a:Nat)(parts:List bA)(j:parts.length<=200)(l:∀s∈parts,s.length<=2000000000):Ok prog 53 [aJ a,.sl (parts.map .str)] ⟨.d (.agg (dO (ER a parts))),true⟩:=by
 refine uF func53 rfl ntmps53 results53 λt X r=>?_;have p:=ES a (k:=2000000009) (parts:=parts) λs h=>by
  have:=l s h;have:=uG (s.length:Int);rw[uH];omega
 have q:parts.length*2000000009<=200*2000000009:=E0 j (A4 _);have i:=Pm (AO a parts) aE;rw[show(oF (AO a parts)).take 16=ER a parts by rfl]at i;have b:(dO (ER a parts)).length=16:=by simp[dO,Ad]
 have d:∀Z:List LV,Z.length<=16->bE 0 Z ((dO (ER a parts)).map LV.d)=(dO (ER a parts)).map LV.d:=λZ m=>cW (by rw[A8,b];exact m);apply aD;simp;apply aF;have g:A6 (AO a parts).length ((AO a parts).map eZ)=(AO a parts).map eZ:=A0 bC;refine aU (λ|7=>some<| .plain ⟨.own 1 ((AO a parts).map eZ),true⟩|8=>some<| .plain ⟨.d (.agg (dO (ER a parts))),true⟩|_=>none) ?_;simp[g,b,d];refine⟨⟨Ys a parts j l,i⟩,?_⟩;apply aH;have f:A6 16 ((dO (ER a parts)).map LV.d)=(dO (ER a parts)).map LV.d:=A0 (by simp[b]);have e:=fS (dO (ER a parts));simp[b,f,e];intro c o;obtain⟨k,n,rfl⟩:=vT _ c o;rfl
end
section
inductive Nd where
 |mk (kind:Int) (text:bA) (n:Int) (kids:List Nd)
instance:Inhabited Nd:=⟨.mk 0 [] 0 []⟩
def Nd.kind:Nd->Int| .mk k _ _ _=>k
def Nd.text:Nd->bA| .mk _ t _ _=>t
def Nd.n:Nd->Int| .mk _ _ n _=>n
def Nd.kids:Nd->List Nd| .mk _ _ _ ks=>ks
@[simp] theorem eJ{k:Int}{t:bA}{n:Int}{a:List Nd}:(Nd.mk k t n a).kind=k:=rfl
@[simp] theorem Pn{k:Int}{t:bA}{n:Int}{a:List Nd}:(Nd.mk k t n a).text=t:=rfl
@[simp] theorem Aj{k:Int}{t:bA}{n:Int}{a:List Nd}:(Nd.mk k t n a).n=n:=rfl
@[simp] theorem rP{k:Int}{t:bA}{n:Int}{a:List Nd}:(Nd.mk k t n a).kids=a:=rfl
mutual
theorem nP{p:Nd->Prop}(h:∀k t n a,(∀x∈a,p x)->p (.mk k t n a)):∀x,p x
 | .mk k t n a=>h k t n a (Sj h a)
theorem Sj{p:Nd->Prop}(h:∀k t n b,(∀x∈b,p x)->p (.mk k t n b)):∀(b:List Nd),∀x∈b,p x
 |[],_,hx=>by cases hx
 |a::r,x,hx=>by
  rcases D2.1 hx with e|e
  .rw[e];exact nP h a
  .exact Sj h r x e
end
mutual
def Nd.d:Nd->DV
 | .mk k t n ks=>.agg [aJ k,.str t,aJ n,.sl (Yt ks)]
def Yt:List Nd->List DV
 |[]=>[]
 |x::r=>x.d::Yt r
end
theorem ndsL_map:∀a:List Nd,Yt a=a.map Nd.d
 |[]=>by simp[Yt]
 |x::r=>by rw[Yt,ndsL_map r];rfl
theorem Nd.d_eq(x:Nd):x.d=.agg [aJ x.kind,.str x.text,aJ x.n,.sl (x.kids.map Nd.d)]:=by
 cases x with|mk k t n ks=>rw[Nd.d,ndsL_map];rfl
def ndsD(l:List Nd):DV:=.sl (l.map Nd.d)
theorem nd_len(x:Nd):(aV x.d).length=4:=by rw[Nd.d_eq];rfl
theorem nd_mem{l:List Nd}{y:DV}(h:y∈l.map Nd.d):(aV y).length=4:=by
 obtain⟨a,_,rfl⟩:=B3.1 h;exact nd_len a
section
variable{l:List Nd} {k n:Nat}
theorem nd_t:(∀y∈A6 k (F6 Nd.d l),(aV y).length=4)↔True:=iff_true_intro λ_ h=>nd_mem (C4 h)
theorem nd_dr:(∀y∈F2 k (F6 Nd.d l),(aV y).length=4)↔True:=iff_true_intro λ_ h=>nd_mem (List.mem_of_mem_drop h)
theorem nd_td:(∀y∈A6 n (F2 k (F6 Nd.d l)),(aV y).length=4)↔True:=iff_true_intro λ_ h=>nd_mem (yD h)
end
mutual
def sizeN:Nd->Nat
 | .mk _ _ _ ks=>sizeL ks+1
def sizeL:List Nd->Nat
 |[]=>0
 |x::r=>sizeN x+sizeL r
end
mutual
def depthN:Nd->Nat
 | .mk _ _ _ ks=>depthL ks+1
def depthL:List Nd->Nat
 |[]=>0
 |x::r=>max (depthN x) (depthL r)
end
mutual
def weighN:Nd->Nat
 | .mk _ t _ ks=>weighL ks+t.length+1
def weighL:List Nd->Nat
 |[]=>0
 |x::r=>weighN x+weighL r
end
theorem depthN_eq(x:Nd):depthN x=depthL x.kids+1:=by cases x;rw[depthN];rfl
theorem weighN_eq(x:Nd):weighN x=weighL x.kids+x.text.length+1:=by cases x;rw[weighN];rfl
theorem weighL_append:∀(a b:List Nd),weighL (a++b)=weighL a+weighL b
 |[],b=>by simp[weighL]
 |x::a,b=>by rw[E9,weighL,weighL,weighL_append a b,C1]
theorem depthL_append:∀(a b:List Nd),depthL (a++b)=max (depthL a) (depthL b)
 |[],b=>by simp[depthL]
 |x::a,b=>by rw[E9,depthL,depthL,depthL_append a b,Nat.max_assoc]
theorem depthL_succ{l:List Nd}{i:Nat}(a:i<l.length):depthL (l.take (i+1))=max (depthL (l.take i)) (depthN l[i]):=by
 rw[<-B1 a,depthL_append];simp[depthL]
theorem weigh_mem:∀{l:List Nd} {x:Nd},x∈l->weighN x<=weighL l
 |[],_,h=>by cases h
 |a::l,x,h=>by
  rw[weighL];rcases D2.1 h with e|e
  .rw[e];omega
  .have:=weigh_mem e;omega
theorem weigh_len:∀{l:List Nd},l.length<=weighL l
 |[]=>A5 _
 |a::l=>by
  have:=weigh_len (l:=l);have h:1<=weighN a:=by rw[weighN_eq];omega
  rw[weighL,C0];omega
theorem size_weigh(x:Nd):sizeN x<=weighN x:=by
 refine nP (p:=λx=>sizeN x<=weighN x) (λk t n d b=>?_) x;rw[sizeN,weighN];have:∀l:List Nd,(∀x∈l,sizeN x<=weighN x)->sizeL l<=weighL l:=λl=>by
  induction l with
  |nil=>intro _;simp[sizeL,weighL]
  |cons a l b=>intro h;have:=b λx c=>h x (C3 _ c);have:=h a (C6 ..);rw[sizeL,weighL];omega
 have:=this d b;omega
theorem depth_size(x:Nd):depthN x<=sizeN x:=by
 refine nP (p:=λx=>depthN x<=sizeN x) (λk t n d b=>?_) x;rw[depthN,sizeN];have:∀l:List Nd,(∀x∈l,depthN x<=sizeN x)->depthL l<=sizeL l:=λl=>by
  induction l with
  |nil=>intro _;simp[sizeL,depthL]
  |cons a l b=>intro h;have:=b λx c=>h x (C3 _ c);have:=h a (C6 ..);rw[sizeL,depthL];omega
 have:=this d b;omega
mutual
def sameN:Nd->Nd->Bool
 | .mk k t n ks,.mk k' t' n' ks'=>decide (k=k')&&decide (t=t')&&decide (n=n')&&sameL ks ks'
def sameL:List Nd->List Nd->Bool
 |[],[]=>true
 |a::r,b::s=>sameN a b&&sameL r s
 |_,_=>false
end
mutual
theorem sameN_iff:∀a b:Nd,sameN a b=true↔a=b
 | .mk k t n ks,.mk k' t' n' ks'=>by
   rw[sameN];simp only[D3,decide_eq_true_eq,sameL_iff ks ks',Nd.mk.injEq];exact⟨λ⟨⟨⟨a,b⟩,c⟩,d⟩=>⟨a,b,c,d⟩,λ⟨a,b,c,d⟩=>⟨⟨⟨a,b⟩,c⟩,d⟩⟩
theorem sameL_iff:∀a b:List Nd,sameL a b=true↔a=b
 |[],[]=>by simp[sameL]
 |[],b::s=>by simp[sameL]
 |a::r,[]=>by simp[sameL]
 |a::r,b::s=>by
  rw[sameL];simp only[D3,sameN_iff a b,sameL_iff r s,List.cons.injEq]
end
instance:DecidableEq Nd:=λa b=>decidable_of_iff _ (sameN_iff a b)
end
def wordsL:List bA:=[[118,97,114],[114,101,99],[99,104,97,110],[108,111,99,107],[102,105,108,101],[112,114,111,99],[116,101,115,116],[],[],[],[],[105,102],[119,104,105,108,101],[103,111],[99,97,108,108],[115,101,110,100],[114,101,99,118],[97,99,113,117,105,114,101],[114,101,108,101,97,115,101],[100,114,97,119],[110,111,119],[115,108,101,101,112],[119,114,105,116,101],[114,101,97,100],[99,104,101,99,107],[97,108,108,111,99]]
def boundsL:List (Int×Int):=[(-999,999),(0,0),(0,3),(0,0),(0,0),(0,0),(0,0),(-999,999),(0,0),(0,0),(0,0),(0,0),(0,0),(0,0),(0,0),(0,0),(0,0),(0,0),(0,0),(2,6),(0,0),(1,9),(0,0),(0,0),(0,0),(1,99),(0,0),(0,0),(0,0),(0,0),(0,0),(0,0),(0,999),(0,0),(0,0),(0,0),(0,0)]
def opsL:List (bA×Int):=[([60],1),([60,61],1),([61,61],1),([43],2),([45],2),([42],3)]
def sElse:bA:=[101,108,115,101]
def sKind:bA:=[107,105,110,100]
theorem words_len:wordsL.length=26:=rfl
theorem bounds_len:boundsL.length=37:=rfl
def letterB(c:UInt8):Bool:=decide (97<=c)&&decide (c<=122)
def digitB(c:UInt8):Bool:=decide (48<=c)&&decide (c<=57)
def runP(p:UInt8->Bool):bA->Nat
 |[]=>0
 |c::r=>if p c then runP p r+1 else 0
theorem runP_le(p:UInt8->Bool):∀s:bA,runP p s<=s.length
 |[]=>A4 _
 |c::r=>by
  have:=runP_le p r;unfold runP;split<;>simp only[C0]<;>omega
theorem runP_all{p:UInt8->Bool}:∀{s:bA} {i:Nat} (h:i<s.length),i<runP p s->p s[i]=true
 |c::r,0,_,h=>by
  unfold runP at h;split at h
  .assumption
  .omega
 |c::r,i+1,hi,h=>by
  unfold runP at h;split at h
  .simpa using runP_all (s:=r) (by simpa using hi) aE
  .omega
theorem runP_stop{p:UInt8->Bool}:∀{s:bA} (h:runP p s<s.length),p s[runP p s]=false
 |[],h=>by simp at h
 |c::r,h=>by
  by_cases q:p c=true
  .have e:runP p (c::r)=runP p r+1:=(by rw[runP,if_pos q]);have a:runP p r<r.length:=by rw[e]at h;simpa using h
   have:=runP_stop a;simp only[e];simpa using this
  .have e:runP p (c::r)=0:=(by rw[runP,if_neg q]);simp only[e];simpa using q
theorem runP_eq{p:UInt8->Bool}{s:bA}{n:Nat}(d:n<=s.length)(h:∀i (c:i<n),p (s[i]'aE)=true)(b:∀a:n<s.length,p s[n]=false):runP p s=n:=by
 rcases Nat.lt_trichotomy (runP p s) n with q|q|q
 .have:=runP_stop (p:=p) (s:=s) aE;rw[h _ q]at this;cases this
 .exact q
 .have a:=runP_le p s;have:=runP_all (p:=p) (show n<s.length by omega) q;rw[b aE]at this;cases this
def wordN(s:bA):Nat:=match s with
 |[]=>0
 |c::_=>if letterB c then(if runP (λc=>letterB c||digitB c) s<=16 then runP (λc=>letterB c||digitB c) s else 0)else 0
def signs:bA:=[40,41,123,125,61,43,45,42,60,59,46]
def nextN(s:bA):Nat:=match s with
 |[]=>0
 |c::r=>if letterB c then wordN s else if c=36 then(if 0<wordN r then wordN r+1 else 0)
  else if digitB c then(if runP digitB s<=3 then runP digitB s else 0)
  else if s.take 2=[60,61]\/s.take 2=[61,61]then 2 else if c∈signs then 1 else 0
def reservedB(s:bA):Bool:=decide (s=sElse)||decide (s=sKind)||decide (s∈wordsL)
def isNameB(s:bA):Bool:=match s with
 |[]=>false
 |c::_=>letterB c&& !reservedB s
def wholeB(s:bA)(named:Bool):Bool:=decide (s≠[])&&decide (wordN s=s.length)&&(!named||isNameB s)
def decS(n:Nat):bA:=if n<10 then [A7 (48+n)]else if n<100 then [A7 (48+n / 10),A7 (48+n%10)]else [A7 (48+n / 100),A7 (48+n / 10%10),A7 (48+n%10)]
def itoaS(n:Int):bA:=if n<0 then 45::decS n.natAbs else decS n.toNat
def wordAt(k:Int):bA:=wordsL.getD k.toNat []
def loAt(k:Int):Int:=(boundsL.getD k.toNat (0,0)).1
def hiAt(k:Int):Int:=(boundsL.getD k.toNat (0,0)).2
def signAt(k:Int):bA:=(opsL.getD (k-26).toNat ([],0)).1
def levelAt(k:Int):Int:=(opsL.getD (k-26).toNat ([],0)).2
def isStmtK(k:Int):Bool:=decide (9<=k)&&decide (k<=25)
def isItemK(k:Int):Bool:=decide (k=7)
def isBlockK(k:Int):Bool:=decide (k=8)
def isExprK(k:Int):Bool:=decide (26<=k)&&decide (k<=36)
theorem isExprK_iff{k:Int}:isExprK k=true↔26<=k/\k<=36:=by simp[isExprK]
theorem isStmtK_iff{k:Int}:isStmtK k=true↔9<=k/\k<=25:=by simp[isStmtK]
def isPlaceK(k:Int):Bool:=decide (k=34)||decide (k=35)
def isLocalK(k:Int):Bool:=decide (k=33)
def kidsB:List Nd->List (Int->Bool)->Bool
 |[],[]=>true
 |x::r,f::l=>f x.kind&&kidsB r l
 |_,_=>false
def shapedK(k:Int)(ks:List Nd):Bool:=
 if k=1 then ks.all λy=>isItemK y.kind
 else if k=8 then ks.all λy=>isStmtK y.kind
 else if k=5\/k=6 then kidsB ks [isBlockK]
 else if k=9\/k=15\/k=22\/k=24 then kidsB ks [isExprK]
 else if k=10 then kidsB ks [isPlaceK,isExprK]
 else if k=11 then kidsB ks [isExprK,isBlockK]||kidsB ks [isExprK,isBlockK,isBlockK]
 else if k=12 then kidsB ks [isExprK,isBlockK]
 else if k=16\/k=23 then kidsB ks [isLocalK]
 else if 26<=k/\k<=31 then kidsB ks [isExprK,isExprK]
 else kidsB ks []
def shapedB(x:Nd):Bool:=shapedK x.kind x.kids
def cutAt(c:UInt8):bA->Option (bA×bA)
 |[]=>none
 |d::r=>if d=c then some ([],r)else(cutAt c r).map λq=>(d::q.1,q.2)
def fieldB(t:bA):Bool:=match cutAt 46 t with
 |some (a,b)=>wholeB a true&&wholeB b true
 |none=>false
def textB(k:Int)(t:bA):Bool:=
 if k=9\/k=19\/k=20\/k=33 then wholeB t false
 else if k=35 then fieldB t
 else if k=8\/k=10\/k=11\/k=12\/k=21\/k=24\/k=25\/(26<=k/\k<=32)\/k=36 then decide (t=[])
 else wholeB t true
def wordedK(k:Int)(t:bA)(n:Int):Bool:=decide (loAt k<=n)&&decide (n<=hiAt k)&&textB k t
def wordedB(x:Nd):Bool:=wordedK x.kind x.text x.n
mutual
def rightN:Nd->Bool
 | .mk k t n ks=>decide (0<=k)&&decide (k<37)&&shapedB (.mk k t n ks)&&wordedB (.mk k t n ks)&&rightL ks
def rightL:List Nd->Bool
 |[]=>true
 |x::r=>rightN x&&rightL r
end
theorem rightL_all:∀l:List Nd,rightL l=l.all rightN
 |[]=>rfl
 |x::r=>by rw[rightL,rightL_all r];rfl
theorem right_mk{k:Int}{t:bA}{n:Int}{ks:List Nd}:rightN (.mk k t n ks)=true↔0<=k/\k<37/\shapedK k ks=true/\loAt k<=n/\n<=hiAt k/\textB k t=true/\∀x∈ks,rightN x=true:=by
 rw[rightN,rightL_all];have h:shapedB (.mk k t n ks)=shapedK k ks:=rfl;have i:wordedB (.mk k t n ks)=wordedK k t n:=rfl;rw[h,i];simp only[D3,decide_eq_true_eq,wordedK,List.all_eq_true];exact⟨λ⟨⟨⟨⟨a,b⟩,c⟩,⟨d,e⟩,f⟩,g⟩=>⟨a,b,c,d,e,f,g⟩,λ⟨a,b,c,d,e,f,g⟩=>⟨⟨⟨⟨a,b⟩,c⟩,⟨d,e⟩,f⟩,g⟩⟩
theorem rightN_eq(x:Nd):rightN x=(decide (0<=x.kind)&&decide (x.kind<37)&&shapedB x&&wordedB x&&x.kids.all rightN):=by
 cases x;rw[rightN,rightL_all];rfl
def paren(c:Bool)(t:bA):bA:=if c then 40::t++[41]else t
def lvlN(k:Int):Int:=if 26<=k/\k<=31 then levelAt k else 4
def exprT:Nd->bA
 | .mk k t n ks=>if k=32 then itoaS n else if k=33 then 36::t else if k=36 then sKind else if k=34\/k=35 then t else match ks with
   |[a,b]=>paren (decide (lvlN a.kind<(if levelAt k=1 then 2 else levelAt k))) (exprT a)++32::(signAt k++32::paren (decide (lvlN b.kind<levelAt k+1)) (exprT b))
   |_=>[]
def withN(n:Int):bA:=if 0<n then 32::itoaS n else []
def withE(ks:List Nd):bA:=ks.flatMap λx=>32::exprT x
def midT(k:Int)(t:bA):bA:=if k=19\/k=20 then 32::36::t else if k=21\/k=25\/k=24 then []else 32::t
mutual
def stmtT:Nd->bA
 | .mk k t n ks=>if k=9 then(match ks with|[e]=>36::t++32::61::32::(exprT e++[59])|_=>[])
   else if k=10 then(match ks with|[p,e]=>exprT p++32::61::32::(exprT e++[59])|_=>[])
   else if k=11\/k=12 then(match ks with
    |[e,b]=>wordAt k++32::(exprT e++32::blockT b)
    |[e,b,c]=>wordAt k++32::(exprT e++32::blockT b)++32::(sElse++32::blockT c)
    |_=>[])
   else wordAt k++midT k t++withN n++withE ks++[59]
def blockT:Nd->bA
 | .mk _ _ _ ks=>123::32::(stmtsT ks++[125])
def stmtsT:List Nd->bA
 |[]=>[]
 |x::r=>stmtT x++32::stmtsT r
end
def itemT(x:Nd):bA:=x.text++32::61::32::(itoaS x.n++[59,32])
def textT(x:Nd):bA:=
 let o:=wordAt x.kind++32::x.text
 if x.kind=5\/x.kind=6 then(match x.kids with|[b]=>o++32::blockT b|_=>[])
 else if x.kind=1 then o++32::123::32::(x.kids.flatMap itemT++[125])
 else if x.kind=0 then o++32::61::32::(itoaS x.n++[59])
 else if x.kind=2 then o++32::(itoaS x.n++[59])
 else o++[59]
def validB(x:Nd):Bool:=decide (0<=x.kind)&&decide (x.kind<=6)&&decide (depthN x<=24)&&rightN x&&decide ((textT x).length<=1024)
def printS(x:Nd):bA:=if validB x then textT x else []
structure Tk where
 text:bA
 at_:Int
 deriving DecidableEq,Inhabited
def Tk.d(t:Tk):DV:=.agg [.str t.text,aJ t.at_]
def scanF:Nat->bA->Int->List Tk×Int
 |0,_,i=>([],i)
 |f+1,s,i=>match s with
  |[]=>([],i)
  |c::r=>if c=32\/c=10 then scanF f r (i+1)else if nextN s=0 then([],i)else
   (⟨s.take (nextN s),i⟩::(scanF f (s.drop (nextN s)) (i+nextN s)).1,(scanF f (s.drop (nextN s)) (i+nextN s)).2)
def scanS(s:bA):List Tk×Int:=scanF s.length s 0
structure PS where
 l:List Tk
 e:Int
 deriving DecidableEq,Inhabited
def PS.peek(p:PS):bA:=if p.e≠0 then []else match p.l with|[]=>[]|t::_=>t.text
def PS.fail(p:PS)(e:Int):PS:=if p.e=0 then⟨p.l,e⟩else p
def PS.skip(p:PS):PS:=⟨p.l.tail,p.e⟩
def PS.is(p:PS)(s:bA):Bool:=decide (s≠[])&&decide (p.peek=s)
def PS.took(p:PS)(s:bA):PS:=if p.is s then p.skip else p
def PS.need(p:PS)(s:bA):PS:=if p.is s then p.skip else p.fail 2
def nameP(p:PS):bA×PS:=if isNameB p.peek then(p.peek,p.skip)else([],p.fail 2)
def localP(p:PS):bA×PS:=match p.peek with
 |36::r=>(r,p.skip)
 |_=>([],p.fail 2)
def valS(s:bA):Int:=s.foldl (λn c=>10*n+((c.toNat:Int)- 48)) 0
def numeralP(k:Int)(p:PS):Int×PS:=match p.peek with
 |[]=>(0,p.fail 2)
 |c::r=>if digitB c then(if valS (c::r)<loAt k\/hiAt k<valS (c::r)then(0,p.fail 5)else(valS (c::r),p.skip))else(0,p.fail 2)
def numberP(p:PS):Int×PS:=if p.is [45]then(-(numeralP 0 p.skip).1,(numeralP 0 p.skip).2)else numeralP 0 p
def placeP(p:PS):Nd×PS:=
 if(nameP p).2.is [46]then(.mk 35 ((nameP p).1++46::(nameP (nameP p).2.skip).1) 0 [],(nameP (nameP p).2.skip).2)
 else(.mk 34 (nameP p).1 0 [],(nameP p).2)
def opI(lv:Int)(s:bA):Int:=match(E2 6).find? (λi=>decide ((opsL.getD i ([],0)).2=lv)&&decide ((opsL.getD i ([],0)).1=s))with
 |some i=>i
 |none=> -1
def opP(lv:Int)(p:PS):Int×PS:=(opI lv p.peek,if 0<=opI lv p.peek then p.skip else p)
def chainF(lv:Int)(x:PS->Nd×PS):Nat->Nd->PS->Nd×PS
 |0,n,p=>(n,p)
 |f+1,n,p=>if p.e≠0 then(n,p)else if(opP lv p).1<0 then(n,(opP lv p).2)else
  chainF lv x f (.mk (26+(opP lv p).1) [] 0 [n,(x (opP lv p).2).1]) (x (opP lv p).2).2
def chainP(lv:Int)(x:PS->Nd×PS)(p:PS):Nd×PS:=chainF lv x ((x p).2.l.length+1) (x p).1 (x p).2
def factP(ex:PS->Nd×PS)(p:PS):Nd×PS:=
 if p.is [40]then((ex p.skip).1,(ex p.skip).2.need [41])
 else if p.is sKind then(.mk 36 [] 0 [],p.skip)
 else match p.peek with
  |c::_=>if digitB c then(.mk 32 [] (numeralP 32 p).1 [],(numeralP 32 p).2)else if c=36 then(.mk 33 (localP p).1 0 [],(localP p).2)else placeP p
  |[]=>placeP p
def prodP(ex:PS->Nd×PS)(p:PS):Nd×PS:=chainP 3 (factP ex) p
def sumP(ex:PS->Nd×PS)(p:PS):Nd×PS:=chainP 2 (prodP ex) p
def exprB(ex:PS->Nd×PS)(p:PS):Nd×PS:=
 let a:=sumP ex p
 if 0<=(opP 1 a.2).1 then(.mk (26+(opP 1 a.2).1) [] 0 [a.1,(sumP ex (opP 1 a.2).2).1],(sumP ex (opP 1 a.2).2).2)else(a.1,(opP 1 a.2).2)
def zeroNd:Nd:=.mk 0 [] 0 []
def exprP(r:Bool):Nat->PS->Nd×PS
 |0,p=>(default,p)
 |f+1,p=>if r=true/\p.e≠0 then(zeroNd,p)else exprB (exprP r f) p
def stmtsF(st:PS->Nd×PS):Nat->List Nd->PS->List Nd×PS
 |0,ks,p=>(ks,p)
 |f+1,ks,p=>if p.e≠0\/p.peek=[125]then(ks,p)else stmtsF st f (ks++[(st p).1]) (st p).2
def blockB(st:PS->Nd×PS)(p:PS):Nd×PS:=
 let q:=p.need [123]
 let r:=stmtsF st (q.l.length+1) [] q
 (.mk 8 [] 0 r.1,r.2.need [125])
def wordI(s:bA):Int:=match(E2 26).find? (λi=>decide (wordsL.getD i []=s))with
 |some i=>i
 |none=> -1
def kindP(s:bA):Int:=if s=[]then -1 else wordI s
def cmdP(ex:PS->Nd×PS)(k:Int)(p:PS):Nd×PS:=
 let a:bA×PS:=if k=19\/k=20 then localP p else if k=21\/k=25\/k=24 then([],p)else nameP p
 if k=15\/k=22\/k=24 then(.mk k a.1 0 [(ex a.2).1],(ex a.2).2)
 else if k=16\/k=23 then(.mk k a.1 0 [.mk 33 (localP a.2).1 0 []],(localP a.2).2)
 else if k=19\/k=21\/k=25 then(.mk k a.1 (numeralP k a.2).1 [],(numeralP k a.2).2)
 else(.mk k a.1 0 [],a.2)
def stmtB(ex bl:PS->Nd×PS)(p:PS):Nd×PS:=
 let k:=kindP p.peek
 if k=11\/k=12 then
  let e:=ex p.skip
  let b:=bl e.2
  if k=11/\b.2.is sElse=true then(.mk k [] 0 [e.1,b.1,(bl b.2.skip).1],(bl b.2.skip).2)else(.mk k [] 0 [e.1,b.1],b.2)
 else if 12<k then((cmdP ex k p.skip).1,(cmdP ex k p.skip).2.need [59])
 else match p.peek with
  |36::_=>(.mk 9 (localP p).1 0 [(ex ((localP p).2.need [61])).1],(ex ((localP p).2.need [61])).2.need [59])
  |_=>(.mk 10 [] 0 [(placeP p).1,(ex ((placeP p).2.need [61])).1],(ex ((placeP p).2.need [61])).2.need [59])
def stmtP(r:Bool):Nat->PS->Nd×PS
 |0,p=>(default,p)
 |f+1,p=>stmtB (λq=>exprP r (q.l.length+1) q) (blockB (stmtP r f)) p
def blockP(r:Bool)(f:Nat)(p:PS):Nd×PS:=blockB (stmtP r f) p
def itemsF:Nat->List Nd->PS->List Nd×PS
 |0,ks,p=>(ks,p)
 |f+1,ks,p=>if p.e≠0\/p.peek=[125]then(ks,p)else
  let a:=nameP p
  let v:=numberP (a.2.need [61])
  itemsF f (ks++[.mk 7 a.1 v.1 []]) (v.2.need [59])
def defKind(s:bA):Int:=if s=[]then -1 else(match(E2 7).find? (λi=>decide (wordsL.getD i []=s))with|some i=>(i:Int)|none=> -1)
def defP(r:Bool)(p:PS):Nd×PS:=
 let k:=defKind p.peek
 if k<0 then(.mk 0 [] 0 [],p.fail 2)else
 let a:=nameP p.skip
 if k=5\/k=6 then(.mk k a.1 0 [(blockP r (a.2.l.length+1) a.2).1],(blockP r (a.2.l.length+1) a.2).2)
 else if k=1 then
  let q:=a.2.need [123]
  let t:=itemsF (q.l.length+1) [] q
  (.mk k a.1 0 t.1,t.2.need [125])
 else if k=0 then(.mk k a.1 (numberP (a.2.need [61])).1 [],(numberP (a.2.need [61])).2.need [59])
 else if k=2 then(.mk k a.1 (numeralP 2 a.2).1 [],(numeralP 2 a.2).2.need [59])
 else(.mk k a.1 0 [],a.2.need [59])
def parseS(s:bA):Nd×Int×Int:=
 if 1024<s.length then(zeroNd,1024,4)else
 let t:=scanS s
 let r:=defP false ⟨t.1,0⟩
 match r.2.l with
 |x::_=>(zeroNd,x.at_,if r.2.e≠0 then r.2.e else 2)
 |[]=>if r.2.e≠0\/t.2<s.length then(zeroNd,t.2,2)else if validB r.1 then(r.1,0,0)else(zeroNd,0,4)
example:(parseS [118,97,114,32,110,61,45,55,59]).1=.mk 0 [110] (-7) []:=bF
example:parseS [99,104,97,110,32,99,32,52,59]=(zeroNd,7,5):=bF
example:parseS [116,101,115,116,32,116,32,123,32,120,32,61,32,59,32,125]=(zeroNd,13,2):=bF
example:parseS [108,111,99,107,32,108]=(zeroNd,6,2):=bF
example:parseS [118,97,114,32,114,101,97,100,32,61,32,49,59]=(zeroNd,4,2):=bF
example:sizeN (parseS [112,114,111,99,32,112,123,36,97,61,40,120,46,121,43,49,41,42,50,59,105,102,32,36,97,60,51,123,103,111,32,113,59,125,101,108,115,101,123,125,125]).1=15:=bF
example:printS (parseS [112,114,111,99,32,112,123,36,97,61,40,120,46,121,43,49,41,42,50,59,105,102,32,36,97,60,51,123,103,111,32,113,59,125,101,108,115,101,123,125,125]).1=[112,114,111,99,32,112,32,123,32,36,97,32,61,32,40,120,46,121,32,43,32,49,41,32,42,32,50,59,32,105,102,32,36,97,32,60,32,51,32,123,32,103,111,32,113,59,32,125,32,101,108,115,101,32,123,32,125,32,125]:=bF
def callL:List bA:=[[97],[98],[120],[98,111,120],[113],[119,50],[99,104,101,99,107,115],[108,111,110,103,101,115,116,110,97,109,101,49,50,51,52,53]]
def ownL:List bA:=[[97],[105],[114,101,97,100],[108,111,110,103,101,115,116,108,111,99,97,108,49,50,51,52]]
def callM(L:List Int)(i:Nat):bA:=callL.getD (eA L i 8).toNat []
def ownM(L:List Int)(i:Nat):bA:=ownL.getD (eA L i 4).toNat []
def placeM(L:List Int)(i:Nat):Nd×Nat:=if 0<eA L i 3 then(.mk 34 (callM L (i+1)) 0 [],i+2)else(.mk 35 (callM L (i+1)++46::callM L (i+2)) 0 [],i+3)
def numsM:List Int:=[0,1,2,7,10,999]
def valueM(L:List Int):Nat->Nat->Nd×Nat
 |d,i=>
  let k:=if d=0\/L.length<i+1 then(eA L i 12).tmod 6 else eA L i 12
  if k=0\/k=1 then(.mk 32 [] (numsM.getD (eA L (i+1) 6).toNat 0) [],i+2)
  else if k=2 then(.mk 33 (ownM L (i+1)) 0 [],i+2)
  else if k=3\/k=4 then placeM L (i+1)
  else if k=5 then(.mk 36 [] 0 [],i+1)
  else match d with
   |0=>default
   |e+1=>(.mk (26+k-6) [] 0 [(valueM L e (i+1)).1,(valueM L e (valueM L e (i+1)).2).1],(valueM L e (valueM L e (i+1)).2).2)
def somesM(L:List Int)(st:Nat->Nd×Nat):Nat->List Nd->Nat->List Nd×Nat
 |0,ks,i=>(ks,i)
 |m+1,ks,i=>if L.length<=i then(ks,i)else somesM L st m (ks++[(st i).1]) (st i).2
def someM(L:List Int)(st:Nat->Nd×Nat)(i:Nat):Nd×Nat:=
 let r:=somesM L st (eA L i 4).toNat [] (i+1)
 (.mk 8 [] 0 r.1,r.2)
def oneB(L:List Int)(d:Nat)(bl:Nat->Nd×Nat)(i0:Nat):Nd×Nat:=
 let k0:=9+eA L i0 17
 let k:=if d=0/\(k0=11\/k0=12)then 24 else k0
 let i:=i0+1
 if k=9 then(.mk k (ownM L i) 0 [(valueM L 2 (i+1)).1],(valueM L 2 (i+1)).2)
 else if k=10 then(.mk k [] 0 [(placeM L i).1,(valueM L 2 (placeM L i).2).1],(valueM L 2 (placeM L i).2).2)
 else if k=11\/k=12 then
  let e:=valueM L 1 i
  let b:=bl e.2
  if k=11 then(if eA L b.2 2=0 then(.mk k [] 0 [e.1,b.1,(bl (b.2+1)).1],(bl (b.2+1)).2)else(.mk k [] 0 [e.1,b.1],b.2+1))
  else(.mk k [] 0 [e.1,b.1],b.2)
 else if k=13\/k=14\/k=17\/k=18 then(.mk k (callM L i) 0 [],i+1)
 else if k=15\/k=22 then(.mk k (callM L i) 0 [(valueM L 1 (i+1)).1],(valueM L 1 (i+1)).2)
 else if k=16\/k=23 then(.mk k (callM L i) 0 [.mk 33 (ownM L (i+1)) 0 []],i+2)
 else if k=19 then(.mk k (ownM L i) (2+eA L (i+1) 5) [],i+2)
 else if k=20 then(.mk k (ownM L i) 0 [],i+1)
 else if k=21 then(.mk k [] (1+eA L i 9) [],i+1)
 else if k=25 then(.mk k [] (1+eA L i 99) [],i+1)
 else(.mk k [] 0 [(valueM L 2 i).1],(valueM L 2 i).2)
def oneM(L:List Int):Nat->Nat->Nd×Nat
 |0,i=>oneB L 0 (λ_=>default) i
 |d+1,i=>oneB L (d+1) (someM L (oneM L d)) i
def treeKinds:List Int:=[5,6,5,6,5,0,1,2,3,4]
def bodyM(L:List Int):Nat->List Nd->Nat->List Nd
 |0,ks,_=>ks
 |m+1,ks,i=>if L.length<=i then ks else bodyM L m (ks++[(oneM L 2 i).1]) (oneM L 2 i).2
def itemsM(L:List Int):Nat->List Nd
 |0=>[]
 |j+1=>itemsM L j++[.mk 7 (callM L (3+2*j)) (eA L (4+2*j) 1999-999) []]
def treeB(L:List Int):Nd:=
 let k:=treeKinds.getD (eA L 0 10).toNat 0
 let t:=callM L 1
 if k=0 then .mk k t (eA L 2 1999-999) []
 else if k=2 then .mk k t (eA L 2 4) []
 else if k=1 then .mk k t 0 (itemsM L (eA L 2 4).toNat)
 else if k=5\/k=6 then .mk k t 0 [.mk 8 [] 0 (bodyM L L.length [] 2)]
 else .mk k t 0 []
def treeS(l:List Int):Nd:=treeB (l.take 48)
def tokE(t:Tk):Int:=t.at_+t.text.length
def sepsL:List bA:=[[32],[10],[32,32,10,32]]
def signB(c:UInt8):Bool:=decide (c∈signs)
def firstIs(p:UInt8->Bool)(w:bA):Bool:=match w with|[]=>false|c::_=>p c
def spacedTo(ts:List Tk)(l:List Int):Nat->bA
 |0=>[]
 |i+1=>
  let out:=spacedTo ts l i
  let w:=(ts.getD i default).text
  let k:=eA l i 6
  let need:=match out.getLast? with
   |none=>false
   |some c=>(firstIs letterB w||firstIs digitB w)&&decide (c≠32)&&decide (c≠10)&& !signB c
  (if decide (k<3)||need||(decide (0<i)&&(decide (w=[61])||decide (w=[61,61])))then out++sepsL.getD (k.tmod 3).toNat []else out)++w
def spacedS(s:bA)(l:List Int):bA:=spacedTo (scanS s).1 l (scanS s).1.length
def chgEmpty:List bA:=[[118,97,114],[41],[65],[49,44,48]]
def chgWords:List bA:=[[118,97,114],[120],[40],[41],[123],[125],[48,48,55],[60],[60,61],[105,102],[61],[61,61],[48],[45],[44],[49,50,51,52],[36,120],[107,105,110,100],[101,108,115,101],[59],[46],[49,48,48],[36],[108,111,110,103,101,114,110,97,109,101,49,50,51,52,53,54,55],[116,101,115,116],[52]]
def changedS(s:bA)(a how b:Int):bA:=match(scanS s).1 with
 |[]=>s++chgEmpty.getD (bS b 4).toNat []
 |t::ts=>
  let k:=(t::ts).getD (bS a (ts.length+1:Nat)).toNat default
  let word:=chgWords.getD (bS b 26).toNat []
  let p:=k.at_.toNat
  let q:=(tokE k).toNat
  let c:=bS how 6
  if c=0 then s.take p++s.drop q
  else if c=1 then s.take q++32::s.drop p
  else if c=2 then s.take p++32::(word++32::s.drop q)
  else if c=3 then s.take p
  else if c=4 then s.take p++word++32::s.drop p
  else s.set (bS a s.length).toNat (A7 (b.emod 256).toNat)
def Stk{α:Type}(x:PS->α×PS):Prop:=∀p,(x p).2.e=0->p.e=0
theorem fail_e{p:PS}{e:Int}(a:e≠0):(p.fail e).e≠0:=by
 unfold PS.fail;split
 .exact a
 .assumption
theorem need_e{p:PS}{s:bA}(h:(p.need s).e=0):p.is s=true/\p.e=0:=by
 unfold PS.need at h;split at h
 .rename_i q;exact⟨q,h⟩
 .exact absurd h (fail_e bF)
theorem nameP_stk:Stk nameP:=λp h=>by
 unfold nameP at h;split at h
 .exact h
 .exact absurd h (fail_e bF)
theorem localP_stk:Stk localP:=λp h=>by
 unfold localP at h;split at h
 .exact h
 .exact absurd h (fail_e bF)
theorem numeralP_stk(k:Int):Stk (numeralP k):=λp h=>by
 unfold numeralP at h;split at h
 .exact absurd h (fail_e bF)
 .split at h
  .split at h
   .exact absurd h (fail_e bF)
   .exact h
  .exact absurd h (fail_e bF)
theorem numberP_stk:Stk numberP:=λp h=>by
 unfold numberP at h;split at h
 .exact numeralP_stk 0 p.skip h
 .exact numeralP_stk 0 _ h
theorem placeP_stk:Stk placeP:=λp h=>by
 unfold placeP at h;split at h
 .exact nameP_stk p (nameP_stk (nameP p).2.skip h)
 .exact nameP_stk p h
theorem opP_stk(a:Int):Stk (opP a):=λp h=>by
 unfold opP at h;simp only at h;split at h<;>exact h
theorem chainF_stk{a:Int}{x:PS->Nd×PS}(b:Stk x):∀(f:Nat) (n:Nd) (p:PS),(chainF a x f n p).2.e=0->p.e=0
 |0,_,_,h=>h
 |f+1,n,p,h=>by
  unfold chainF at h;split at h
  .exact h
  .rename_i q;simpa using q
theorem chainP_stk{b:Int}{x:PS->Nd×PS}(a:Stk x):Stk (chainP b x):=λp h=>a p (chainF_stk a _ _ _ h)
theorem factP_stk{a:PS->Nd×PS}(b:Stk a):Stk (factP a):=λp h=>by
 unfold factP at h;split at h
 .exact b p.skip (need_e h).2
 .split at h
  .exact h
  .split at h
   .split at h
    .exact numeralP_stk 32 p h
    .split at h
     .exact localP_stk p h
     .exact placeP_stk p h
   .exact placeP_stk p h
theorem sumP_stk{a:PS->Nd×PS}(b:Stk a):Stk (sumP a):=chainP_stk (chainP_stk (factP_stk b))
theorem exprB_stk{b:PS->Nd×PS}(a:Stk b):Stk (exprB b):=λp h=>by
 unfold exprB at h;simp only at h;split at h
 .exact sumP_stk a p (opP_stk 1 _ (sumP_stk a _ h))
 .exact sumP_stk a p (opP_stk 1 _ h)
theorem exprP_stk(r:Bool):∀f,Stk (exprP r f)
 |0=>λp h=>h
 |f+1=>λp h=>by
  unfold exprP at h;split at h
  .exact h
  .exact exprB_stk (exprP_stk r f) p h
theorem stmtsF_stk{c:PS->Nd×PS}(a:Stk c):∀(f:Nat) (b:List Nd) (p:PS),(stmtsF c f b p).2.e=0->p.e=0
 |0,_,_,h=>h
 |f+1,b,p,h=>by
  unfold stmtsF at h;split at h
  .exact h
  .exact a p (stmtsF_stk a f _ _ h)
theorem blockB_stk{a:PS->Nd×PS}(b:Stk a):Stk (blockB a):=λp h=>by
 unfold blockB at h;exact(need_e (stmtsF_stk b _ _ _ (need_e h).2)).2
theorem cmdP_stk{c:PS->Nd×PS}(d:Stk c)(k:Int):Stk (cmdP c k):=λp h=>by
 have b:(if k=19\/k=20 then localP p else if k=21\/k=25\/k=24 then([],p)else nameP p).2.e=0->p.e=0:=λh=>by
  split at h
  .exact localP_stk p h
  .split at h
   .exact h
   .exact nameP_stk p h
 unfold cmdP at h;generalize(if k=19\/k=20 then localP p else if k=21\/k=25\/k=24 then([],p)else nameP p)=a at h b;simp only at h;split at h
 .exact b (d _ h)
 .split at h
  .exact b (localP_stk _ h)
  .split at h
   .exact b (numeralP_stk _ _ h)
   .exact b h
theorem stmtB_stk{c b:PS->Nd×PS}(a:Stk c)(d:Stk b):Stk (stmtB c b):=λp h=>by
 unfold stmtB at h;simp only at h;split at h
 .split at h
  .exact a p.skip (d _ (d (b (c p.skip).2).2.skip h))
  .exact a p.skip (d _ h)
 .split at h
  .exact cmdP_stk a _ p.skip (need_e h).2
  .split at h
   .exact localP_stk p (need_e (a _ (need_e h).2)).2
   .exact placeP_stk p (need_e (a _ (need_e h).2)).2
theorem exprO_stk(r:Bool):Stk λq=>exprP r (q.l.length+1) q:=λp h=>exprP_stk r _ p h
theorem stmtP_stk(r:Bool):∀f,Stk (stmtP r f)
 |0=>λp h=>h
 |f+1=>λp h=>stmtB_stk (exprO_stk r) (blockB_stk (stmtP_stk r f)) p h
theorem itemsF_stk:∀(f:Nat) (a:List Nd) (p:PS),(itemsF f a p).2.e=0->p.e=0
 |0,_,_,h=>h
 |f+1,a,p,h=>by
  unfold itemsF at h;split at h
  .exact h
  .exact nameP_stk p (need_e (numberP_stk _ (need_e (itemsF_stk f _ _ h)).2)).2
def Rl(x y:Nd×PS):Prop:=x.2=y.2/\(x.2.e=0->x.1=y.1)
def Rf(x y:PS->Nd×PS):Prop:=∀p,Rl (x p) (y p)
theorem Rl.refl(x:Nd×PS):Rl x x:=⟨rfl,λ_=>rfl⟩
theorem chainF_rl{a:Int}{x y:PS->Nd×PS}(c:Rf x y):∀(f:Nat) (n m:Nd) (p:PS),(p.e=0->n=m)->Rl (chainF a x f n p) (chainF a y f m p)
 |0,_,_,_,h=>⟨rfl,h⟩
 |f+1,n,m,p,h=>by
  unfold chainF;split
  .exact⟨rfl,h⟩
  .rename_i q;have b:p.e=0:=by simpa using q
   split
   .exact⟨rfl,λ_=>h b⟩
   .obtain⟨d,e⟩:=c (opP a p).2;rw[<-d];exact chainF_rl c f _ _ _ λg=>by rw[h b,e g]
theorem chainP_rl{b:Int}{x y:PS->Nd×PS}(a:Rf x y):Rf (chainP b x) (chainP b y):=λp=>by
 unfold chainP;obtain⟨c,d⟩:=a p;rw[<-c];exact chainF_rl a _ _ _ _ d
theorem factP_rl{x y:PS->Nd×PS}(c:Rf x y):Rf (factP x) (factP y):=λp=>by
 unfold factP;split
 .obtain⟨a,b⟩:=c p.skip;rw[<-a];exact⟨rfl,λh=>b (need_e h).2⟩
 .exact Rl.refl _
theorem sumP_rl{x y:PS->Nd×PS}(a:Rf x y):Rf (sumP x) (sumP y):=chainP_rl (chainP_rl (factP_rl a))
theorem exprB_rl{x y:PS->Nd×PS}(f:Stk x)(b:Rf x y):Rf (exprB x) (exprB y):=λp=>by
 unfold exprB;simp only;obtain⟨c,a⟩:=sumP_rl b p;rw[<-c];split
 .obtain⟨d,e⟩:=sumP_rl b (opP 1 (sumP x p).2).2;rw[<-d];exact⟨rfl,λh=>by rw[a (opP_stk 1 _ (sumP_stk f _ h)),e h]⟩
 .exact⟨rfl,λh=>a (opP_stk 1 _ h)⟩
theorem factP_bad{c:PS->Nd×PS}{p:PS}(h:p.e≠0):(factP c p).2=p:=by
 have b:p.peek=[]:=by unfold PS.peek;rw[if_pos h]
 have a:∀s,s≠[]->p.is s=false:=λs f=>by
  unfold PS.is;rw[b];simp only[Bool.and_eq_false_iff,decide_eq_false_iff_not];right;exact λe=>f e.symm
 have d:nameP p=([],p):=by
  unfold nameP;rw[b];simp[isNameB,PS.fail,h]
 unfold factP;rw[a _ bF,a _ bF,b];simp only[Bool.false_eq_true,if_false];unfold placeP;rw[d];simp only;rw[a _ bF];simp
theorem chainP_bad{b:Int}{x:PS->Nd×PS}(a:∀p,p.e≠0->(x p).2=p){p:PS}(h:p.e≠0):(chainP b x p).2=p:=by
 unfold chainP chainF;rw[a p h,if_pos h]
theorem exprB_bad{a:PS->Nd×PS}{p:PS}(h:p.e≠0):(exprB a p).2=p:=by
 have c:(sumP a p).2=p:=chainP_bad (λp h=>chainP_bad (λp h=>factP_bad h) h) h;have b:opI 1 p.peek= -1:=by
  have:p.peek=[]:=by unfold PS.peek;rw[if_pos h]
  rw[this];decide
 unfold exprB;simp only[c,opP,b];simp
theorem exprP_rl:∀f,Rf (exprP false f) (exprP true f)
 |0=>λp=>Rl.refl _
 |f+1=>λp=>by
  unfold exprP;rw[if_neg bC];by_cases h:p.e≠0
  .rw[if_pos ⟨rfl,h⟩];exact⟨exprB_bad h,λa=>by rw[exprB_bad h]at a;exact absurd a h⟩
  .rw[if_neg (λq=>h q.2)];exact exprB_rl (exprP_stk false f) (exprP_rl f) p
theorem stmtsF_rl{x y:PS->Nd×PS}(d:Stk x)(e:Rf x y):∀(f:Nat) (a b:List Nd) (p:PS),(p.e=0->a=b)->(stmtsF x f a p).2=(stmtsF y f b p).2/\((stmtsF x f a p).2.e=0->(stmtsF x f a p).1=(stmtsF y f b p).1)
 |0,_,_,_,h=>⟨rfl,h⟩
 |f+1,a,b,p,h=>by
  unfold stmtsF;split
  .exact⟨rfl,h⟩
  .obtain⟨g,i⟩:=e p;rw[<-g];exact stmtsF_rl d e f _ _ _ λc=>by rw[h (d p c),i c]
theorem blockB_rl{x y:PS->Nd×PS}(c:Stk x)(d:Rf x y):Rf (blockB x) (blockB y):=λp=>by
 unfold blockB;simp only;obtain⟨a,b⟩:=stmtsF_rl c d ((p.need [123]).l.length+1) [] [] (p.need [123]) (λ_=>rfl);rw[<-a];exact⟨rfl,λh=>by rw[b (need_e h).2]⟩
theorem cmdP_rl{x y:PS->Nd×PS}(d:Rf x y)(k:Int):Rf (cmdP x k) (cmdP y k):=λp=>by
 unfold cmdP;generalize(if k=19\/k=20 then localP p else if k=21\/k=25\/k=24 then([],p)else nameP p)=a;simp only;split
 .obtain⟨b,c⟩:=d a.2;rw[<-b];exact⟨rfl,λh=>by rw[c h]⟩
 .exact Rl.refl _
theorem stmtB_rl{x y b c:PS->Nd×PS}(n:Stk x)(e:Rf x y)(f:Stk b)(j:Rf b c):Rf (stmtB x b) (stmtB y c):=λp=>by
 unfold stmtB;simp only;split
 .obtain⟨d,a⟩:=e p.skip;rw[<-d];obtain⟨k,i⟩:=j (x p.skip).2;rw[<-k];split
  .obtain⟨l,m⟩:=j (b (x p.skip).2).2.skip;rw[<-l];exact⟨rfl,λh=>by
    have g:=f _ h;rw[m h,i g,a (f _ g)]⟩
  .exact⟨rfl,λh=>by rw[i h,a (f _ h)]⟩
 .split
  .obtain⟨d,a⟩:=cmdP_rl e (kindP p.peek) p.skip;rw[<-d];exact⟨rfl,λh=>a (need_e h).2⟩
  .split
   .obtain⟨d,a⟩:=e ((localP p).2.need [61]);rw[<-d];exact⟨rfl,λh=>by rw[a (need_e h).2]⟩
   .obtain⟨d,a⟩:=e ((placeP p).2.need [61]);rw[<-d];exact⟨rfl,λh=>by rw[a (need_e h).2]⟩
theorem stmtP_rl:∀f,Rf (stmtP false f) (stmtP true f)
 |0=>λp=>Rl.refl _
 |f+1=>λp=>stmtB_rl (exprO_stk false) (λq=>exprP_rl _ q) (blockB_stk (stmtP_stk false f)) (blockB_rl (stmtP_stk false f) (stmtP_rl f)) p
theorem defP_rl:Rf (defP false) (defP true):=λp=>by
 unfold defP;simp only;generalize defKind p.peek=k;split
 .exact Rl.refl _
 .split
  .obtain⟨a,b⟩:=blockB_rl (stmtP_stk false ((nameP p.skip).2.l.length+1)) (stmtP_rl ((nameP p.skip).2.l.length+1)) (nameP p.skip).2;unfold blockP;rw[<-a];exact⟨rfl,λh=>by rw[b h]⟩
  .exact Rl.refl _
end Go.Eng
