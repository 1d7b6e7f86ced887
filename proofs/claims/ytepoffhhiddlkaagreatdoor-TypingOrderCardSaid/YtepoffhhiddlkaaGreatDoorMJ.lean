/- Part 10 of the proof. No condition. -/
import Derived.Test.YtepoffhhiddlkaaGreatDoorMI
open Go.Proofs
open Go.Proofs.Tryz
set_option linter.unusedVariables false
set_option linter.unusedSimpArgs false
set_option maxRecDepth 20000
set_option maxHeartbeats 4000000
open List renaming take_of_length_le→A0,getD_eq_getElem?_getD→A1,getElem?_eq_getElem→A3,range→A4,replicate→A5,length_map→A8,take→A9,length_append→B0,map_append→B2,take_append_getElem→B3,mem_map→B4,mem_append_left→B5,mem_append→B6,length_drop→B7,mem_of_getElem?→B9,length_take→C0,length_cons→C1,eq_nil_of_length_eq_zero→C2,range_succ→C3,getElem?_append_left→C4,length_reverse→C5,map_map→C6,take_succ_eq_append_getElem→C7,all_eq_true→C9,map→D0,mem_range→D4,getElem?_map→D6,map_take→D9,getElem_mem→E0,length_nil→E3,mem_append_right→E6,mem_cons_of_mem→E7,getElem_reverse→E8,length_pos_iff→E9,replicate_succ→F0,flatMap_append→F1,mem_cons_self→F2,flatMap_cons→F5,nodup_append→F8,not_mem_nil→G0,take_length→G2,nodup_cons→G6,take_take→G8,map_cons→G9
open Nat renaming le_refl→A6,zero_le→A7,mod_lt→C8,add_sub_cancel→D3,pow_pos→D7,le_of_eq→E1,min_eq_left→E2,le_div_iff_mul_le→E4,div_lt_iff_lt_mul→E5,add_zero→F4,pow_succ→F6,min_eq_right→F9,mod_eq_of_lt→G4,add_assoc→H0,le_total→H1
open Int renaming tmod_eq_emod_of_nonneg→B8,fdiv_eq_ediv_of_nonneg→D2,natCast_nonneg→F3,toNat_natCast→F7,natCast_ediv→G1,natCast_pow→G5,pow_mul→H2
open Bool renaming and_eq_true→G3
open BitVec renaming ofInt→B1,ushiftRight_eq_zero→D1,shiftLeft_eq_zero→D8
open UInt8 renaming ofNat→A2,toNat_ofNat'→D5,toNat_inj→G7,toNat→H3
namespace Go.Eng
def pV(b:UInt8):DV:=.int .u8 (b.toNat:Int)
def Iz(s:H8):List DV:=[w32 s.a,w32 s.b,w32 s.c,w32 s.d,w32 s.e,w32 s.f,w32 s.g,w32 s.h]
def kE(st:Strm):List DV:=Iz st.s++(st.B.map pV++[.int .u64 (st.n:Int)])
def FD(s:H8):List LV:=(Iz s).map .d
def dM(st:Strm):List LV:=(kE st).map .d
def wL(ws:List (BitVec 32)):List LV:=ws.map λx=>.d (w32 x)
def wD(ws:List (BitVec 32)):List DV:=ws.map w32
theorem Wf(a:List (BitVec 32)):wL a=(wD a).map .d:=by simp[wL,wD]
theorem wS(a:List (BitVec 32)):(wL a).length=a.length:=by simp[wL]
theorem kO:∀l:List DV,zN (l.map .d)=some l
 |[]=>rfl
 |x::l=>by simp[zN,kO l]
theorem IA(s:H8):(Iz s).length=8:=rfl
theorem qC{st:Strm}(h:st.B.length=64):(kE st).length=73:=by simp[kE,Iz,h]
theorem gF{st:Strm}(h:st.B.length=64):(dM st).length=73:=by simp[dM,qC h]
theorem NB{st:Strm}(h:st.B.length=64):(dM st)[72]? =some (.d (.int .u64 (st.n:Int))):=by
 simp[dM,kE,Iz,h]
theorem aAn{a:Strm}(h:a.B.length=64){i:Nat}(b:i<64):(dM a)[8+i]? =some (.d (pV (a.B.getD i 0))):=by
 have e:(dM a)[8+i]? =((a.B.map pV++[DV.int .u64 (a.n:Int)]).map LV.d)[i]? :=by
  unfold dM kE;rw[B2,List.getElem?_append_right (by simp[Iz])];simp[Iz]
 rw[e,B2,C4 (by simp[h,b])];simp[A3 (show i<a.B.length by omega)]
theorem aAo(a:Strm):(dM a).take 8=FD a.s:=by
 unfold dM kE FD;rw[B2,List.take_left' (by simp[Iz])]
theorem Bl{a:Strm}(h:a.B.length=64):(dM a).take 73=dM a:=A0 (by rw[gF h];exact A6 _)
theorem wT{α:Type}{A B new:List α}{k n:Nat}(a:A.length=k):bF (k+n) (A++B) new=A++bF n B new:=by
 unfold bF;rw[List.take_append,List.drop_append,a,Nat.add_sub_cancel_left,A0 aE,show k+n+new.length-k=n+new.length by omega,List.drop_eq_nil_of_le aE];simp
theorem tE{α β:Type}(f:α->β)(n:Nat)(A B:List α):bF n (A.map f) (B.map f)=(bF n A B).map f:=by simp[bF]
theorem He{α:Type}{A B a:List α}{n:Nat}(h:n+a.length<=A.length):bF n (A++B) a=bF n A a++B:=by
 unfold bF;rw[List.take_append_of_le_length aE,List.drop_append_of_le_length aE];simp
theorem BY{α:Type}{A a:List α}{n:Nat}(h:n+a.length<=A.length):(bF n A a).length=A.length:=by
 simp[bF];omega
theorem SB(y:List UInt8):tL y=(y.map pV).map .d:=by simp[tL,pV]
theorem SC{st:Strm}(h:st.B.length=64){k:Nat}{y:List UInt8}(a:k+y.length<=64):bF (8+k) (dM st) (tL y)=dM ⟨st.s,bF k st.B y,st.n⟩:=by
 rw[SB];unfold dM kE;rw[tE,wT (IA _),He (by simp[h];omega),tE]
theorem SD{st:Strm}(h:st.B.length=64)(n:Nat):bF 72 (dM st) [.d (.int .u64 (n:Int))]=dM ⟨st.s,st.B,n⟩:=by
 rw[show [LV.d (.int .u64 (n:Int))]=[DV.int .u64 (n:Int)].map LV.d by rfl];unfold dM kE;rw[tE,show 72=8+64 by rfl,wT (IA _),show 64=64+0 by rfl,wT (by simp[h])];simp[bF]
theorem SE(a:Strm)(s:H8):bF 0 (dM a) (FD s)=dM ⟨s,a.B,a.n⟩:=by
 unfold dM kE FD;rw[tE,He (by simp[Iz])];simp[bF,Iz]
theorem lT(a:List TK)(b:Bool)(x y:BitVec 32):aR a b .add (.d (w32 x)) (.d (w32 y))=.plain (.d (w32 (x+y))):=by
 simp[aR,w32,add32, -BitVec.toNat_add]
theorem lU(a:List TK)(b:Bool)(x y:BitVec 32):aR a b .and (.d (w32 x)) (.d (w32 y))=.plain (.d (w32 (x&&&y))):=congrArg (λz=>kH.plain (LV.d (.int .u32 z))) (and32 x y)
theorem oL(a:List TK)(b:Bool)(x y:BitVec 32):aR a b .or (.d (w32 x)) (.d (w32 y))=.plain (.d (w32 (x|||y))):=congrArg (λz=>kH.plain (LV.d (.int .u32 z))) (or32 x y)
theorem lV(a:List TK)(b:Bool)(x y:BitVec 32):aR a b .xor (.d (w32 x)) (.d (w32 y))=.plain (.d (w32 (x^^^y))):=congrArg (λz=>kH.plain (LV.d (.int .u32 z))) (xor32 x y)
theorem jO(a:List TK)(b:Bool)(x:BitVec 32):aR a b .xor (.d (w32 x)) (.d (.int .u32 4294967295))=.plain (.d (w32 (~~~x))):=congrArg (λz=>kH.plain (LV.d (.int .u32 z))) (ones32 x)
theorem oM(x:BitVec 32):bJ .xor (.d (w32 x))=.plain (.d (w32 (~~~x))):=congrArg (λz=>kH.plain (LV.d (.int .u32 z))) (not32 x)
theorem SF(x:BitVec 32)(k:Nat):IntKind.u32.wrap ((x.toNat:Int)*2^min k 32)=((x<<<k).toNat:Int):=by
 rcases H1 k 32 with h|h
 .rw[E2 h,shl32 x k h]
 .rw[F9 h,shl32 x 32 (A6 _),D8 h,D8 (A6 _)]
theorem SG(x:BitVec 32)(k:Nat):(x.toNat:Int).fdiv (2^min k 32)=((x>>>k).toNat:Int):=by
 rcases H1 k 32 with h|h
 .rw[E2 h,shr32 x k]
 .rw[F9 h,shr32 x 32,D1 h,D1 (A6 _)]
theorem lW(a:List TK)(b:Bool)(x:BitVec 32)(k:IntKind)(n:Int):aR a b .shl (.d (w32 x)) (.d (.int k n))=.cond (.d (w32 (x<<<n.toNat))) (0<=n):=congrArg (λz=>kH.cond (LV.d (.int .u32 z)) (0<=n)) (SF x n.toNat)
theorem lX(a:List TK)(b:Bool)(x:BitVec 32)(k:IntKind)(n:Int):aR a b .shr (.d (w32 x)) (.d (.int k n))=.cond (.d (w32 (x>>>n.toNat))) (0<=n):=congrArg (λz=>kH.cond (LV.d (.int .u32 z)) (0<=n)) (SG x n.toNat)
def byW(x:BitVec 32):UInt8:=A2 x.toNat
theorem rR(T:TypeId->cX)(H:Nat->bI){s t:TypeId}(a:(T s).k=.int .u32)(b:(T t).k=.int .u8)(x:BitVec 32):aO T H s t (.d (w32 x))=.plain (.d (pV (byW x))):=by
 simp only[aO,a,b,w32,pV,byW,conv8]
theorem oN(T:TypeId->cX)(H:Nat->bI){s t:TypeId}(a:(T s).k=.int .u8)(c:(T t).k=.int .u32)(b:UInt8):aO T H s t (.d (pV b))=.plain (.d (w32 (b32 b))):=by
 simp only[aO,a,c,w32,pV,conv32]
theorem oO(x:BitVec 32):dV (.d (w32 x))=[.d (w32 x)]:=rfl
theorem oP(x:BitVec 32):aU (w32 x)=[w32 x]:=rfl
theorem oQ(x:UInt8):dV (.d (pV x))=[.d (pV x)]:=rfl
theorem oS(x:UInt8):aU (pV x)=[pV x]:=rfl
theorem tF(x:UInt8):sD (pV x)=x:=by simp[sD,pV]
theorem aBa(l:List UInt8):(l.map pV).map sD=l:=by
 rw[C6,show sD∘pV=id from funext tF,List.map_id]
theorem aBb:∀k:Nat,k<32->0<k->IntKind.u64.wrap (((IntKind.u64.wrap (-(k:Int))%2^IntKind.u64.bits).toNat&&&31%2^IntKind.u64.bits:Nat):Int)=((32-k:Nat):Int):=bK
theorem tG{n:Nat}(h:n<18446744073709551616):IntKind.u64.wrap (n:Int)=(n:Int):=by
 unfold IntKind.wrap;simp[IntKind.bits,IntKind.signed];omega
theorem Hf{n:Nat}(h:n<9223372036854775808):IntKind.i64.wrap (n:Int)=(n:Int):=by
 unfold IntKind.wrap;simp[IntKind.bits,IntKind.signed];omega
theorem Wg{st:Strm}(h:st.B.length=64)(x:List UInt8):(stepS st x).B.length=64:=by
 unfold stepS;rw[BY (by rw[C0,h];have:=C8 st.n (show 0<64 by decide);omega),h]
theorem KK:∀(f g:Nat) (st:Strm) (x:List UInt8),x.length<=f->x.length<=g->addP f st x=addP g st x
 |0,0,_,_,_,_=>rfl
 |0,g+1,st,x,h,_=>by have:x=[]:=C2 aE;subst this;simp[addP]
 |f+1,0,st,x,_,h=>by have:x=[]:=C2 aE;subst this;simp[addP]
 |f+1,g+1,st,x,h1,h2=>by
  unfold addP;split
  .rfl
  .rename_i e;have:=room_pos (st:=st) e;exact KK f g _ _ (by rw[B7];omega) (by rw[B7];omega)
def wU(st:Strm)(x:List UInt8):Strm:=addP x.length st x
theorem Wh(st:Strm):wU st []=st:=rfl
theorem Hg{st:Strm}{x:List UInt8}(h:x≠[]):wU (stepS st x) (x.drop (roomS st x))=wU st x:=by
 unfold wU;obtain⟨f,a⟩:∃f,x.length=f+1:=⟨x.length-1,by have:=E9.2 h;omega⟩;rw[a,addP,if_neg h];exact KK _ _ _ _ (A6 _) (by rw[B7];have:=room_pos (st:=st) h;omega)
theorem Al{m:List UInt8}{a:Strm}(h:HoldS m a)(x:List UInt8):HoldS (m++x) (wU a x):=h.adds _ x (A6 _)
theorem HoldS.hash{m:List UInt8}{a:Strm}(h:HoldS m a):out32 (wU a (padS a.n)).s=sha m:=by
 obtain⟨_,b,_,_⟩:=id h;exact h.sum _ (by rw[b];exact A6 _)
def toS(l:List Nat):List UInt8:=l.map A2
def NC(tag:Nat)(parts:List (List UInt8)):List UInt8:=A2 tag::parts.flatMap λp=>toS (strE p)
def SH(tag:Nat)(parts:List (List UInt8)):List UInt8:=(sha (NC tag parts)).take 16
def iZ(l:List UInt8):List DV:=l.map pV
theorem tH(s:H8):(out32 s).length=32:=by simp[out32]
theorem IB(m:List UInt8):(sha m).length=32:=tH _
theorem Dt(b:Nat)(a:List (List UInt8)):(SH b a).length=16:=by simp[SH,IB]
section
attribute[local simp] aR bJ bF aO
attribute[local simp] kH.cond
def bD(x:Nat):DV:=.int .u8 (x:Int)
theorem KL{x:Int}(a:0<=x)(h:x<256):IntKind.u8.wrap x=x:=by
 unfold IntKind.wrap;simp[IntKind.bits,IntKind.signed];omega
def CY(hd:Nat)(L:List Nat)(j:Nat):List DV:=(hd::L.take j).map bD
theorem Hh{hd:Nat}{L:List Nat}:CY hd L 0=[bD hd]:=rfl
theorem wV{hd:Nat}{L:List Nat}{j:Nat}(a:j<=L.length):(CY hd L j).length=j+1:=by simp[CY];omega
theorem yW{hd:Nat}{L:List Nat}{j:Nat}(a:j<=L.length):(CY hd L j).take (j+1)=CY hd L j:=A0 (by rw[wV a];exact A6 _)
theorem Hi{hd:Nat}{L:List Nat}{j:Nat}(a:j<L.length):CY hd L (j+1)=CY hd L j++[bD L[j]]:=by
 unfold CY;rw[<-B3 a,G9,G9,B2];rfl
theorem KM{hd:Nat}{L:List Nat}{j:Nat}(a:L.length<=j):CY hd L j=(hd::L).map bD:=by rw[CY,A0 a]
theorem KN(n:Int):(intE n).length<=9:=by
 have:=digF_len 8 (absE n);unfold intE;simp;omega
end
def rC(B:List UInt8)(t:Nat):List LV:=wL (sched B t++A5 (64-t) 0)
def Fk(B:List UInt8)(t:Nat):Nat->BitVec 32
 |0=>0
 |j+1=>Fk B t j<<<8|||b32 (B.getD (4*t+j) 0)
def Bn(B:List UInt8)(t j:Nat):List LV:=wL (sched B t++(Fk B t j::A5 (63-t) 0))
theorem Wi(B:List UInt8)(t:Nat):Fk B t 4=firstW B t:=by
 simp only[Fk,F4];exact firstW_eq _ _ _ _
theorem SI(B:List UInt8):rC B 0=A5 64 (.d (w32 0)):=by simp[rC,sched,wL]
theorem Fl(B:List UInt8){t:Nat}(h:t<=64):(rC B t).length=64:=by simp[rC,wS,sched_len];omega
theorem Wj(B:List UInt8){t j:Nat}(h:t<64):(Bn B t j).length=64:=by simp[Bn,wS,sched_len];omega
theorem Hj(B:List UInt8){t:Nat}(h:t<64):Bn B t 0=rC B t:=by
 unfold Bn rC Fk;rw[show 64-t=63-t+1 by omega,F0]
theorem KO(B:List UInt8){t:Nat}(h:t<16):sched B (t+1)=sched B t++[firstW B t]:=by rw[sched,if_pos h]
theorem ND(B:List UInt8){t:Nat}(h:¬t<16):sched B (t+1)=sched B t++[wd (sched B t) (t-16)+sig0 (wd (sched B t) (t-15))+wd (sched B t) (t-7)+sig1 (wd (sched B t) (t-2))]:=by rw[sched,if_neg h]
theorem Wk(B:List UInt8){t:Nat}(h:t<16):Bn B t 4=rC B (t+1):=by
 unfold Bn rC;rw[Wi,KO B h,show 64-(t+1)=63-t by omega];simp
theorem NE(a:List (BitVec 32)){i:Nat}(h:i<a.length):(wL a)[i]? =some (.d (w32 (a.getD i 0))):=by
 unfold wL;rw[D6,A3 h,A1,A3 h];rfl
theorem Wl(A B:List (BitVec 32)):wL (A++B)=wL A++wL B:=by simp[wL]
theorem Wm(A B:List (BitVec 32))(x y:BitVec 32){t:Nat}(h:A.length=t):bF t (wL (A++(x::B))) [.d (w32 y)]=wL (A++(y::B)):=by
 have e:=wT (A:=wL A) (B:=wL (x::B)) (new:=[LV.d (w32 y)]) (k:=t) (n:=0) (by rw[wS,h]);rw[Wl,Wl];rw[F4]at e;rw[e];rfl
theorem Wn(B:List UInt8){t j:Nat}:(Bn B t j)[t]? =some (.d (w32 (Fk B t j))):=by
 unfold Bn;rw[NE _ (by simp[sched_len])];simp[sched_len]
theorem Wo(B:List UInt8){t j:Nat}:bF t (Bn B t j) [.d (w32 (Fk B t j<<<8|||b32 (B.getD (4*t+j) 0)))]=Bn B t (j+1):=Wm _ _ _ _ (sched_len B t)
theorem Bo(B:List UInt8){t i:Nat}(h:i<t):(rC B t)[i]? =some (.d (w32 (wd (sched B t) i))):=by
 unfold rC;rw[NE _ (by simp[sched_len];omega)];unfold wd;rw[A1,A1,C4 (by rw[sched_len];exact h)]
theorem Wp(B:List UInt8){t:Nat}(h:t<64)(y:BitVec 32)(e:sched B (t+1)=sched B t++[y]):bF t (rC B t) [.d (w32 y)]=rC B (t+1):=by
 rw[<-Hj B h];unfold Bn;rw[Wm _ _ _ _ (sched_len B t)];unfold rC;rw[e,show 64-(t+1)=63-t by omega];simp
theorem Wq(B:List UInt8):rC B 64=wL (sched B 64):=by simp[rC]
theorem Wr(a:List (BitVec 32)){n:Nat}(h:a.length<=n):(wL a).take n=wL a:=A0 (by rw[wS];exact h)
theorem aAp(a:List (BitVec 32)):(wD a).length=a.length:=by simp[wD]
theorem aAq(a:List (BitVec 32)){i:Nat}(h:i<a.length):(wD a)[i]? =some (w32 (a.getD i 0)):=by
 unfold wD;rw[D6,A3 h,A1,A3 h];rfl
def pW(op:BinOp)(k:IntKind)(a:Int)(k':IntKind)(b:Int):kH:=
 match op with
 | .add=>if k=k' then(if k=.i64 then .cond (.d (.int k (a+b))) (-9223372036854775808<=a+b/\a+b<=9223372036854775807)else .plain (.d (.int k (k.wrap (a+b)))))else .fail
 | .sub=>if k=k' then(if k=.i64 then .cond (.d (.int k (a-b))) (-9223372036854775808<=a-b/\a-b<=9223372036854775807)else .plain (.d (.int k (k.wrap (a-b)))))else .fail
 | .mul=>if k=k' then(if k=.i64 then .cond (.d (.int k (a*b))) (-9223372036854775808<=a*b/\a*b<=9223372036854775807)else .plain (.d (.int k (k.wrap (a*b)))))else .fail
 | .quo=>if k=k' then(if k=.i64 then .cond (.d (.int k (a.tdiv b))) (b≠0/\ -9223372036854775808<=a.tdiv b/\a.tdiv b<=9223372036854775807)else .cond (.d (.int k (k.wrap (a.tdiv b)))) (b≠0))else .fail
 | .rem=>if k=k' then .cond (.d (.int k (a.tmod b))) (b≠0)else .fail
 | .lss=>if k=k' then .plain (.d (.bool (decide (a<b))))else .fail
 | .leq=>if k=k' then .plain (.d (.bool (decide (a<=b))))else .fail
 | .gtr=>if k=k' then .plain (.d (.bool (decide (a>b))))else .fail
 | .geq=>if k=k' then .plain (.d (.bool (decide (a>=b))))else .fail
 | .eql=>if k=k' then .plain (.d (.bool (decide (a=b))))else .fail
 | .neq=>if k=k' then .plain (.d (.bool (!decide (a=b))))else .fail
 | .shl=>.cond (.d (.int k (k.wrap (a*2^min b.toNat k.bits)))) (0<=b)
 | .shr=>.cond (.d (.int k (a.fdiv (2^min b.toNat k.bits)))) (0<=b)
 | .and=>if k=k' then .plain (.d (.int k (k.wrap (B1 k.bits a&&&B1 k.bits b).toNat)))else .fail
 | .or=>if k=k' then .plain (.d (.int k (k.wrap (B1 k.bits a|||B1 k.bits b).toNat)))else .fail
 | .xor=>if k=k' then .plain (.d (.int k (k.wrap (B1 k.bits a^^^B1 k.bits b).toNat)))else .fail
 |_=>.fail
theorem rU(c:List TK)(f:Bool)(e:BinOp)(k d:IntKind)(a b:Int):aR c f e (.d (.int k a)) (.d (.int d b))=pW e k a d b:=rfl
theorem oT(c:List TK)(d:Bool)(a b:List UInt8):aR c d .neq (.d (.str a)) (.d (.str b))=.plain (.d (.bool (!(a==b)))):=rfl
theorem wW(n:Int):bJ .neg (.d (.int .i64 n))=.cond (.d (.int .i64 (0-n))) (-9223372036854775808<=0-n/\0-n<=9223372036854775807):=rfl
theorem oU(T:TypeId->cX)(H:Nat->bI){s t:TypeId}{d a:IntKind}(b:(T s).k=.int d)(c:(T t).k=.int a)(k:IntKind)(n:Int):aO T H s t (.d (.int k n))=.plain (.d (.int a (a.wrap n))):=by
 simp only[aO,b,c]
theorem oV(T:TypeId->cX)(H:Nat->bI){s t e:TypeId}(a:(T s).k=.slice e)(b:(T t).k=.str)(c:(T e).k=.int .u8)(x:LV):aO T H s t x=match rZ H x with|some ys=>.cond (.d (.str (ys.map sD))) (∀y∈ys,∃n,y=.int .u8 n)|none=>.fail:=by
 simp only[aO,a,b,c];cases rZ H x<;>rfl
theorem gX(T:TypeId->cX)(H:Nat->bI){s t e:TypeId}(a:(T s).k=.str)(b:(T t).k=.slice e)(c:(T e).k=.int .u8)(l:List UInt8):aO T H s t (.d (.str l))=.cond (.d (.sl (l.map pV))) (l.length<=1099511627776):=by
 simp only[aO,a,b,c];rfl
theorem NF(B:List UInt8):rC B 0=A5 64 (.d (.int .u32 0)):=SI B
theorem NG{l:List LV}{i:Nat}{x:LV}(e:l[i]? =some x)(h:i<l.length):l[i]'h=x:=by
 rw[A3 h]at e;exact Option.some.inj e
theorem Wu(s:Strm):∀c∈kE s,∃k n,c=.int k n:=λc a=>by
 simp only[kE,Iz,B6,List.mem_cons,G0,or_false,B4]at a;rcases a with(h|h|h|h|h|h|h|h)|⟨b,_,h⟩|h
 all_goals first|exact⟨_,_,h⟩|exact⟨_,_,h.symm⟩
theorem IC(l:List UInt8):∀c∈iZ l,∃k n,c=.int k n:=λc a=>by
 obtain⟨b,_,h⟩:=B4.1 a;exact⟨_,_,h.symm⟩
theorem KP(s:List UInt8):(strE s).length=(intE s.length).length+s.length:=by simp[strE]
theorem rV(a:List (BitVec 32)):zN (wL a)=some (wD a):=by rw[Wf,kO]
theorem rW(s:H8):zN (FD s)=some (Iz s):=kO _
theorem lY(s:Strm):zN (dM s)=some (kE s):=kO _
def To(tag:Nat)(parts:List (List UInt8)):Nat->Strm
 |0=>wU emptyS [A2 tag]
 |i+1=>wU (To tag parts i) (toS (strE (parts.getD i [])))
theorem Wv(a:Nat)(parts:List (List UInt8)){i:Nat}(h:i<parts.length):NC a (parts.take (i+1))=NC a (parts.take i)++toS (strE (parts.getD i [])):=by
 unfold NC;rw[<-B3 h,F1,A1,A3 h];simp
theorem qD(a:Nat)(parts:List (List UInt8)):∀i,i<=parts.length->HoldS (NC a (parts.take i)) (To a parts i)
 |0,_=>Al holds_empty [A2 a]
 |i+1,h=>by
  rw[Wv a parts aE];exact Al (qD a parts i aE) _
theorem Qg(l:List Nat):(toS l).length=l.length:=by simp[toS]
theorem Qh(a:Nat){k:Nat}:∀{parts:List (List UInt8)},(∀s∈parts,(strE s).length<=k)->(NC a parts).length<=1+parts.length*k
 |[],_=>by simp[NC]
 |s::r,h=>by
  have c:=Qh a (parts:=r) λx b=>h x (E7 _ b);have d:=h s (F2 ..);simp only[NC,F5,C1,B0,Qg,Nat.add_mul]at*;omega
theorem aAr(l:List Nat):(l.map bD).map sD=toS l:=by
 rw[C6];apply List.map_congr_left;intro x _;simp[sD,bD]
theorem wX{σ:List (Nat×Nat)}{n id k m c:Nat}:ren σ (n+1) (.sb id k m c)=match dN σ id with|some i=>.sb i k m c|none=>.junk:=rfl
theorem lZ{id k m c:Nat}:dV (.sb id k m c)=[.sb id k m c]:=rfl
theorem yX(σ:List (Nat×Nat))(l:List DV):(l.map LV.d).map (ren σ 8)=l.map .d:=by
 rw[C6];rfl
theorem mN(σ:List (Nat×Nat))(s:Strm):(dM s).map (ren σ 8)=dM s:=yX _ _
theorem sJ(σ:List (Nat×Nat))(l:List (BitVec 32)):(wL l).map (ren σ 8)=wL l:=by rw[Wf,yX]
theorem oW(σ:List (Nat×Nat))(B:List UInt8)(t:Nat):(rC B t).map (ren σ 8)=rC B t:=sJ _ _
theorem oX(σ:List (Nat×Nat))(B:List UInt8)(t j:Nat):(Bn B t j).map (ren σ 8)=Bn B t j:=sJ _ _
def vH(s:H8):List DV:=[w32 s.a,w32 s.b,w32 s.c,w32 s.d]
def eD(s:H8):List DV:=[w32 s.e,w32 s.f,w32 s.g,w32 s.h]
def vL(s:H8):List LV:=[.d (w32 s.a),.d (w32 s.b),.d (w32 s.c),.d (w32 s.d)]
def eL(s:H8):List LV:=[.d (w32 s.e),.d (w32 s.f),.d (w32 s.g),.d (w32 s.h)]
theorem wY(s:H8):zN (vL s)=some (vH s):=kO (vH s)
theorem wZ(s:H8):zN (eL s)=some (eD s):=kO (eD s)
theorem Am(s:H8):(vH s).map LV.d=vL s:=rfl
theorem An(s:H8):(eD s).map LV.d=eL s:=rfl
theorem uH(s:H8):(Iz s).map LV.d=FD s:=rfl
theorem xA(l:List (BitVec 32)):(wD l).map LV.d=wL l:=(Wf l).symm
theorem nU(s:Strm):(kE s).map LV.d=dM s:=rfl
theorem xB(σ:List (Nat×Nat))(s:H8):(vL s).map (ren σ 8)=vL s:=yX σ (vH s)
theorem xC(σ:List (Nat×Nat))(s:H8):(eL s).map (ren σ 8)=eL s:=yX σ (eD s)
theorem rX(σ:List (Nat×Nat))(s:H8):(FD s).map (ren σ 8)=FD s:=yX _ _
theorem Ww(s:H8):(FD s).take 8=FD s:=rfl
theorem aBK(s:H8):(FD s).take 4=vL s:=rfl
theorem aBL(s:H8):((FD s).drop 4).take 4=eL s:=rfl
theorem Du(s:H8):(FD s).length=8:=rfl
theorem Wx(s:H8):(vL s).length=4:=rfl
theorem Wy(s:H8):(eL s).length=4:=rfl
theorem eR{α:Type}{A B:List α}(h:A.length<=B.length):bF 0 A B=B:=by simp[bF,h]
def IK(s:H8)(i:Nat):BitVec 32:=[s.a,s.b,s.c,s.d,s.e,s.f,s.g,s.h].getD i 0
def uU(s r:H8)(j:Nat):List LV:=(A4 8).map λi=>.d (w32 (if i%4<j then IK s i+IK r i else IK s i))
theorem oY(σ:List (Nat×Nat))(s r:H8)(j:Nat):(uU s r j).map (ren σ 8)=uU s r j:=by
 unfold uU;rw[C6];rfl
theorem SJ(s r:H8):uU s r 0=FD s:=by simp[uU,FD,Iz,C3,IK]
theorem Wz(s r:H8):uU s r 4=FD (s.add r):=by simp[uU,FD,Iz,C3,IK,H8.add]
theorem WA(s r:H8)(j:Nat):(uU s r j).length=8:=by simp[uU]
theorem SK{j:Nat}(h:j<4):j=0\/j=1\/j=2\/j=3:=aE
theorem WB(s r:H8){j:Nat}(h:j<4):(uU s r j)[j]? =some (.d (w32 (IK s j))):=by
 rcases SK h with rfl|rfl|rfl|rfl<;>simp[uU,C3]
theorem SL(s r:H8){j:Nat}(h:j<4)(x:LV):(bF j (uU s r j) [x])[j+4]? =some (.d (w32 (IK s (j+4)))):=by
 rcases SK h with rfl|rfl|rfl|rfl<;>simp[uU,C3,bF]
theorem WC(s r:H8){j:Nat}(h:j<4):bF (j+4) (bF j (uU s r j) [.d (w32 (IK s j+IK r j))]) [.d (w32 (IK s (j+4)+IK r (j+4)))]=uU s r (j+1):=by
 rcases SK h with rfl|rfl|rfl|rfl<;>simp[uU,C3,bF]
theorem aAs(r:H8){j:Nat}(h:j<4):(vL r)[j]? =some (.d (w32 (IK r j))):=by
 rcases SK h with rfl|rfl|rfl|rfl<;>rfl
theorem aAt(r:H8){j:Nat}(h:j<4):(eL r)[j]? =some (.d (w32 (IK r (j+4)))):=by
 rcases SK h with rfl|rfl|rfl|rfl<;>rfl
theorem aAu(s:H8){i:Nat}(h:i<8):(FD s)[i]? =some (.d (w32 (IK s i))):=by
 rcases(by omega:i=0\/i=1\/i=2\/i=3\/i=4\/i=5\/i=6\/i=7)with rfl|rfl|rfl|rfl|rfl|rfl|rfl|rfl<;>rfl
theorem aAv(a:Strm){i:Nat}(h:i<8):(dM a)[i]? =some (.d (w32 (IK a.s i))):=by
 rw[<-aAu a.s h];unfold dM kE FD;rw[B2,C4 (by simpa [Iz]using h)]
theorem SM(s:H8){i:Nat}(h:i<32):(out32 s)[i]? =some (byW (IK s (i / 4)>>>(24-8*(i%4)))):=by
 obtain⟨q,r,rfl,a,b⟩:∃q r,i=4*q+r/\r<4/\q<8:=⟨i / 4,i%4,aE,aE,aE⟩;rw[show(4*q+r) / 4=q by omega,show(4*q+r)%4=r by omega];rcases SK a with rfl|rfl|rfl|rfl<;>
 rcases(by omega:q=0\/q=1\/q=2\/q=3\/q=4\/q=5\/q=6\/q=7)with rfl|rfl|rfl|rfl|rfl|rfl|rfl|rfl<;>simp[out32,IK,byW]
def uI(s:H8)(i:Nat):List LV:=(((out32 s).take i++A5 (32-i) 0).map pV).map .d
theorem Fm(s:H8){i:Nat}(h:i<=32):(uI s i).length=32:=by simp[uI,tH];omega
theorem oZ(σ:List (Nat×Nat))(s:H8)(i:Nat):(uI s i).map (ren σ 8)=uI s i:=yX _ _
theorem Hk(s:H8):uI s 0=A5 32 (.d (pV 0)):=by simp[uI]
theorem WD(s:H8):uI s 32=((out32 s).map pV).map .d:=by simp[uI,A0 (E1 (tH s))]
theorem WE(s:H8){i:Nat}(h:i<32):bF i (uI s i) [.d (pV (byW (IK s (i / 4)>>>(24-8*(i%4)))))]=uI s (i+1):=by
 have e:=SM s h;have b:i<(out32 s).length:=by rw[tH];exact h
 rw[A3 b]at e;have e:=Option.some.inj e;rw[<-e];have c:((out32 s).take i).length=i:=by rw[C0,tH];omega
 have a:=wT (A:=(out32 s).take i) (B:=0::A5 (31-i) 0) (new:=[(out32 s)[i]]) (k:=i) (n:=0) c;rw[F4]at a;unfold uI;rw[show [LV.d (pV (out32 s)[i])]=([(out32 s)[i]].map pV).map .d by rfl,tE,tE,show 32-i=31-i+1 by omega,F0,a,<-B3 b,show 32-(i+1)=31-i by omega,List.append_assoc];rfl
def Bp(n i:Nat):List UInt8:=128::A5 ((119-n%64)%64) 0++(len8 (8*n)).take i
theorem Fn(n:Nat):(len8 n).length=8:=by simp[len8]
theorem Hl(n:Nat):Bp n 0=128::A5 ((119-n%64)%64) 0:=by simp[Bp]
theorem KQ(n:Nat):Bp n 8=padS n:=by simp[Bp,padS,A0 (E1 (Fn _))]
theorem Hm(n:Nat){i:Nat}(h:i<8):Bp n (i+1)=Bp n i++[A2 (8*n / 256^(7-i))]:=by
 unfold Bp;rw[<-B3 (by rw[Fn];exact h)];simp[len8]
theorem KR(n:Nat){i:Nat}(h:i<=8):(Bp n i).length=1+(119-n%64)%64+i:=by simp[Bp,Fn];omega
theorem WF(M:Nat){i:Nat}(h:i<8):(M:Int).fdiv (2^min (56-8*(i:Int)).toNat IntKind.u64.bits)=((M / 256^(7-i):Nat):Int):=by
 show(M:Int).fdiv (2^min (56-8*(i:Int)).toNat 64)=((M / 256^(7-i):Nat):Int);have e:(2:Int)^(8*(7-i))=((256^(7-i):Nat):Int):=by
  rw[H2,G5];rfl
 rw[show min (56-8*(i:Int)).toNat 64=8*(7-i)by omega,e,D2 _ (F3 _),G1]
theorem Zr(n:Nat):DV.int .u8 (IntKind.u8.wrap (n:Int))=pV (A2 n):=by
 unfold pV IntKind.wrap;simp[IntKind.bits,IntKind.signed,UInt8.toNat_ofNat]
section
attribute[local simp] lT lU oL lV jO oM lW lX rR oN oO oP oQ oS
attribute[local simp] rU pW oT wW oU oV gX kH.cond bN rV rW lY wY wZ wX lZ mN sJ oW oX xB xC rX oY oZ
theorem Ao(x:BitVec 32)(k:Nat)(a:0<k)(b:k<32):Ok prog 267 [w32 x,aI (-(k:Int))] ⟨.d (w32 (ror x k)),true⟩:=by
 refine bT func267 rfl ntmps267 results267 λf X e=>?_;have c:=aBb k b a;have d:IntKind.u64.wrap (32-((32-k:Nat):Int))=(k:Int):=by rw[show(32:Int)-((32-k:Nat):Int)=(k:Int)by omega];exact tG aE
 apply aD;simp;apply aD;simp[c];apply aD;simp[d,ror_comm];apply aH;simp[w32]
theorem YL(x:BitVec 32):Ok prog 267 [w32 x,aI (-7)] ⟨.d (w32 (ror x 7)),true⟩:=Ao x 7 bK bK
theorem WG(x:BitVec 32):Ok prog 267 [w32 x,aI (-18)] ⟨.d (w32 (ror x 18)),true⟩:=Ao x 18 bK bK
theorem WH(x:BitVec 32):Ok prog 267 [w32 x,aI (-17)] ⟨.d (w32 (ror x 17)),true⟩:=Ao x 17 bK bK
theorem WI(x:BitVec 32):Ok prog 267 [w32 x,aI (-19)] ⟨.d (w32 (ror x 19)),true⟩:=Ao x 19 bK bK
theorem WJ(x:BitVec 32)(i j k:Nat)(a:0<i/\i<32)(b:0<j/\j<32)(c:0<k/\k<32):Ok prog 198 [w32 x,aI i,aI j,aI k] ⟨.d (w32 (mix3 x i j k)),true⟩:=by
 refine bT func198 rfl ntmps198 results198 λe X d=>?_;apply aD;simp;refine dH (λ|12=>some<| .plain ⟨.d (w32 (ror x i)),true⟩|16=>some<| .plain ⟨.d (w32 (ror x j)),true⟩|21=>some<| .plain ⟨.d (w32 (ror x k)),true⟩|_=>none) ?_;simp;refine⟨⟨⟨⟨⟨⟨aE,Ao x i a.1 a.2⟩,aE⟩,Ao x j b.1 b.2⟩,aE⟩,Ao x k c.1 c.2⟩,?_⟩;apply aH;simp[w32,mix3]
theorem KT(a:Strm)(w:a.B.length=64):mE prog 197 [.sb 0 8 64 64] [(0,.box false (dM a))] [(0,.box false (dM a))] (.d (.agg (wD (sched a.B 64)))):=by
 refine lA func197 rfl ntmps197 results197 λJ X d=>?_;have f:=gF w;apply aD;simp;apply aD;simp;apply eP;simp;apply aW;refine aZ (ι:=Nat) (λt=>bA [(0,.sb 0 8 64 64),(2,.bx 2 0),(3,.bx 3 0),(11,.d (aI t))]) (λt=>aK [(0,.box false (dM a)),(2,.box false (rC a.B 0)),(3,.box false (rC a.B t))]) (λt=>t<=64) (λt=>64-t) 0 (aA d [0,2,3,11] [(0,0),(2,2),(3,3)] (hH:=by simp[NF])) (A7 _) λt l=>?_;apply aD;simp;apply aF;apply aM;simp;refine⟨λC=>?_,λC=>?_⟩
 .apply aG;simp;apply eG;apply aD;simp;apply fE;have g:=Fl a.B l;apply aJ;simp;apply aM;simp;refine⟨λD=>?_,λD=>?_⟩
  .apply fE;have y:(4*(t:Int)).toNat=4*t:=aE;have z:(4*(t:Int)+4-4*(t:Int)).toNat=4:=aE;apply aJ;simp[y,z];refine⟨aE,?_⟩;apply aW;refine aZ (ι:=Nat) (λj=>bA [(0,.sb 0 8 64 64),(2,.bx 2 0),(3,.bx 3 0),(4,.d (aI t)),(11,.d (aI t)),(22,.sb 0 (8+4*t) 4 (64-4*t)),(23,.d (aI 4)),(24,.d (aI j))]) (λj=>aK [(0,.box false (dM a)),(2,.box false (rC a.B 0)),(3,.box false (Bn a.B t j))]) (λj=>j<=4) (λj=>4-j) 0 (aA d [0,2,3,4,11,22,23,24] [(0,0),(2,2),(3,3)] (hH:=by simp[Hj a.B (show t<64 by omega)])) (A7 _) λj F=>?_;apply aD;simp;apply aF;apply aM;simp;refine⟨λE=>?_,λE=>?_⟩
   .apply aG;simp;apply eG;apply aF;have x:=aAn w (i:=4*t+j) aE;rw[<-H0]at x;apply aJ;simp[f,x];refine⟨aE,?_⟩;have p:=Wj a.B (t:=t) (j:=j) aE;have o:=Wn a.B (t:=t) (j:=j);have b:=Wo a.B (t:=t) (j:=j);simp only[A1]at b;apply aJ;simp[p,o];refine⟨aE,?_⟩;apply aJ;simp;refine⟨aE,?_⟩;refine On.mk (j+1) (aA d [0,2,3,4,11,22,23,24] [(0,0),(2,2),(3,3)] (hH:=by simp[b])) ?_ ?_
    .omega
    .omega
   .apply bP;simp;apply bP;simp;apply aJ;simp;refine⟨aE,?_⟩;have n:=Wk a.B (t:=t) aE;have m:j=4:=aE;subst m;refine On.mk (t+1) (aA d [0,2,3,11] [(0,0),(2,2),(3,3)] (hH:=by simp[n])) ?_ ?_
    .omega
    .omega
  .apply aG;simp;apply aF;have u:((t:Int)- 15).toNat=t-15:=aE;have H:((t:Int)- 2).toNat=t-2:=aE;have h:=Bo a.B (t:=t) (i:=t-15) aE;have A:=Bo a.B (t:=t) (i:=t-2) aE;refine fF.rd [] [] (λ_=>none) ?_;simp[g,u,H,h,A];refine⟨aE,?_⟩;refine dH (λ|47=>some<| .plain ⟨.d (w32 (ror (wd (sched a.B t) (t-15)) 7)),true⟩|49=>some<| .plain ⟨.d (w32 (ror (wd (sched a.B t) (t-15)) 18)),true⟩|_=>none) ?_;simp;refine⟨⟨YL _,WG _⟩,?_⟩;refine dH (λ|55=>some<| .plain ⟨.d (w32 (ror (wd (sched a.B t) (t-2)) 17)),true⟩|57=>some<| .plain ⟨.d (w32 (ror (wd (sched a.B t) (t-2)) 19)),true⟩|_=>none) ?_;simp;refine⟨⟨WH _,WI _⟩,?_⟩;have v:((t:Int)- 16).toNat=t-16:=aE;have I:((t:Int)- 7).toNat=t-7:=aE;have k:=Bo a.B (t:=t) (i:=t-16) aE;have B:=Bo a.B (t:=t) (i:=t-7) aE;have b:=Wp a.B (show t<64 by omega) _ (ND a.B (t:=t) aE);simp only[sig0,sig1]at b;refine fF.rd [] [[],[],[],[],[],[],[],[],[],[],[],[],[],[],[],[3]] (λ_=>none) ?_;simp[g,v,I,k,B];refine⟨aE,?_⟩;apply aJ;simp;refine⟨aE,?_⟩;refine On.mk (t+1) (aA d [0,2,3,11] [(0,0),(2,2),(3,3)] (hH:=by simp[b])) ?_ ?_
   .omega
   .omega
 .apply bP;simp;apply aF;have G:t=64:=aE;subst G;have e:=Fl a.B (t:=0) aE;have c:=sched_len a.B 64;have r:A9 64 (rC a.B 64)=wL (sched a.B 64):=by rw[Wq,Wr _ (E1 c)]
  have q:bF 0 (rC a.B 0) (wL (sched a.B 64))=wL (sched a.B 64):=eR (by rw[wS,c,e];exact A6 _);apply aJ;simp[r,xA,q,e,Fl,wS,c];apply aH;have s:=Wr (sched a.B 64) (E1 c);simp[s,wS,c];exact aA d [0] [(0,0)]
end
section
attribute[local simp] lT lU oL lV jO oM lW lX rR oN oO oP oQ oS
attribute[local simp] rU pW oT wW oU oV gX kH.cond aQ bN rV rW lY wY wZ wX lZ mN sJ oW oX xB xC rX oY oZ Am An uH xA nU
theorem WK:Tp=wD KS:=by rfl
theorem aAw:KS.length=64:=by rfl
set_option maxRecDepth 100000
theorem KU(st:Strm)(s:H8)(H:st.B.length=64):mE prog 132 [.d (.agg (Iz s)),.sb 0 8 64 64] [(0,.box false (dM st))] [(0,.box false (dM st))] (.d (.agg (Iz (comp s st.B)))):=by
 refine lA func132 rfl ntmps132 results132 λY X q=>?_;have J:=gF H;have n:=sched_len st.B 64;have p:comp s st.B=s.add (rndS s KS (sched st.B 64) 64):=rfl;obtain⟨V,L⟩:∃V,V=sched st.B 64:=⟨_,rfl⟩;have k:=KT st H;rw[<-L]at n p k;have F:∀a b c d:LV,bF 0 [a,b,c,d] (vL s)=vL s:=λ_ _ _ _=>eR (A6 4);have B:∀a b c d:LV,bF 0 [a,b,c,d] (eL s)=eL s:=λ_ _ _ _=>eR (A6 4);have o:(wD KS).length=64:=rfl;have y:A9 64 (wD KS)=wD KS:=rfl;have l:(wL V).length=64:=by rw[wS,n]
 have z:(wD V).length=64:=by rw[aAp,n]
 apply aD;simp;refine dH (oh 14 [(0,.box false (dM st))] (.d (.agg (wD V)))) ?_;simp[l,z];refine⟨k,?_⟩;apply aF;refine fF.rd [[6,7],[6,7],[6,7],[6,7],[6,7],[6,7],[7],[6]] [[],[],[],[],[],[],[6],[7],[6],[7]] (λ_=>none) ?_;simp[aBK,aBL,Wx,Wy,Du];apply eP;simp[WK,o,y];apply aW;refine aZ (ι:=Nat) (λt=>bA [(2,.bx 2 0),(4,.bx 4 0),(5,.bx 5 0),(6,.bx 6 0),(7,.bx 7 0),(21,.d (.agg (wD KS))),(22,.d (aI t))]) (λt=>aK [(0,.box false (dM st)),(2,.box false (FD s)),(4,.box false (A5 8 (.d (.int .u32 0)))),(5,.box false (wL V)),(6,.box false (vL (rndS s KS V t))),(7,.box false (eL (rndS s KS V t)))]) (λt=>t<=64) (λt=>64-t) 0 (aA q [2,4,5,6,7,21,22] [(0,0),(2,2),(4,4),(5,5),(6,6),(7,7)] (hH:=by simp[rndS,A5,eR,l,F,B])) (A7 _) λt O=>?_;apply aD;simp;apply aF;apply aM;simp;refine⟨λK=>?_,λK=>?_⟩
 .apply aG;simp;apply eG;apply aF;have Q:=aAq KS (i:=t) (by rw[aAw];omega);apply aJ;simp[Q,o];refine⟨aE,?_⟩;apply aF;have W:=NE V (i:=t) aE;obtain⟨r,v⟩:∃r,r=rndS s KS V t:=⟨_,rfl⟩;have E:rndS s KS V (t+1)=rndO r (KS.getD t 0) (V.getD t 0):=by rw[v];rfl
  rw[<-v];refine fF.rd [[30],[30],[],[],[],[],[30],[30],[30],[30],[30],[30],[30],[30],[30],[30],[30],[30],[],[30],[],[30],[30],[30]] [[],[],[],[],[30]] (og 30 (.plain ⟨.d (w32 (mix3 r.e 6 11 25)),true⟩)) ?_;simp[W,eL,l];refine⟨⟨⟨WJ r.e 6 11 25 bK bK bK,aE⟩,aE⟩,?_⟩;apply aF;refine fF.rd [[],[],[],[53],[53],[53],[53],[53],[53],[53],[53],[53],[53],[53],[53],[53],[53],[53],[53],[53]] [[],[],[53]] (og 53 (.plain ⟨.d (w32 (mix3 r.a 2 13 22)),true⟩)) ?_;simp[vL];refine⟨WJ r.a 2 13 22 bK bK bK,?_⟩;apply aD;simp[vL,eL,bF];apply aJ;simp[vL,eL,bF];apply aJ;simp;refine⟨aE,?_⟩;refine On.mk (t+1) (aA q [2,4,5,6,7,21,22] [(0,0),(2,2),(4,4),(5,5),(6,6),(7,7)] (hH:=by simp[E,rndO,vL,eL,bF])) ?_ ?_
  .omega
  .omega
 .apply bP;simp;apply fE;obtain⟨r,v⟩:∃r,r=rndS s KS V t:=⟨_,rfl⟩;apply aJ;simp;apply aW;refine aZ (ι:=Nat) (λj=>bA [(2,.bx 2 0),(4,.bx 4 0),(6,.bx 6 0),(7,.bx 7 0),(94,.d (aI j))]) (λj=>aK [(0,.box false (dM st)),(2,.box false (uU s r j)),(4,.box false (A5 8 (.d (.int .u32 0)))),(6,.box false (vL r)),(7,.box false (eL r))]) (λj=>j<=4) (λj=>4-j) 0 (aA q [2,4,6,7,94] [(0,0),(2,2),(4,4),(6,6),(7,7)] (hH:=by simp[SJ,v])) (A7 _) λj I=>?_;apply aD;simp;apply aF;apply aM;simp;refine⟨λw=>?_,λw=>?_⟩
  .apply aG;simp;apply eG;apply aD;simp;apply aF;have M:=WB s r (show j<4 by omega);have U:=aAs r (show j<4 by omega);have N:=aAt r (show j<4 by omega);have m:=WA s r j;have A:=SL s r (show j<4 by omega);have u:=WC s r (show j<4 by omega);refine fF.rd [] [[],[],[],[],[],[],[],[],[2]] (λ_=>none) ?_;simp[M,U,m,Wx];refine⟨aE,?_⟩;have D:∀x:LV,(bF j (uU s r j) [x]).length=8:=λx=>by rw[BY (by rw[m];simp;omega),m]
   have C:((j:Int)+4).toNat=j+4:=aE;refine fF.rd [] [[],[],[],[],[],[],[],[],[],[2]] (λ_=>none) ?_;simp[C,A,N,D,Wy];refine⟨aE,?_⟩;apply aJ;simp;refine⟨aE,?_⟩;refine On.mk (j+1) (aA q [2,4,6,7,94] [(0,0),(2,2),(4,4),(6,6),(7,7)] (hH:=by simp[u])) ?_ ?_
   .omega
   .omega
  .apply bP;simp;apply aF;have P:j=4:=aE;subst P;have S:t=64:=aE;subst S;have G:∀a b c d e f g h:LV,bF 0 [a,b,c,d,e,f,g,h] (FD (s.add r))=FD (s.add r):=λ_ _ _ _ _ _ _ _=>eR (A6 8);apply aJ;simp[G,Wz,Du,Ww,eR];apply aH;rw[p,<-v];simp[Du,Ww];exact aA q [0] [(0,0)]
end
section
attribute[local simp] aR bJ bF aO
attribute[local simp] kH.cond
end
theorem tI:∀(f m k:Nat),m<256^k->(k=0\/256^(k-1)<=m)->k<=f->(digF f m).length=k
 |0,m,k,_,_,hk=>by have:k=0:=aE
                   subst this;rfl
 |f+1,m,0,h,_,_=>by simp at h;subst h;simp[digF]
 |f+1,m,k+1,h,a,hk=>by
  have c:0<256^k:=D7 bK;have b:256^k<=m:=by rcases a with a|a;omega;simpa using a
  unfold digF;rw[if_neg aE,C1,tI f (m / 256) k ?_ ?_ aE]
  .rw[F6]at h;omega
  .cases k with
   |zero=>exact .inl rfl
   |succ k=>right;simp only[D3];rw[F6]at b;omega
theorem Fo:∀(f m i:Nat),i<(digF f m).length->(digF f m)[i]? =some (m / 256^i%256)
 |0,_,_,h=>by simp[digF]at h
 |f+1,m,i,h=>by
  unfold digF at h|-;split
  .rename_i a;rw[if_pos a]at h;simp at h
  .rename_i a;rw[if_neg a]at h;cases i with
   |zero=>simp
   |succ i=>
    rw[List.getElem?_cons_succ,Fo f (m / 256) i (by simpa using h),Nat.div_div_eq_div_mul,F6,Nat.mul_comm]
theorem YM{n:Int}(c: -9223372036854775808<=n)(d:n<0):IntKind.u64.wrap (B1 64 IntKind.u64.max^^^B1 64 (IntKind.u64.wrap n)).toNat= -1-n:=by
 have a:B1 64 IntKind.u64.max=BitVec.allOnes 64:=bK;have b:IntKind.u64.wrap n=n+18446744073709551616:=by
  unfold IntKind.wrap;simp[IntKind.bits,IntKind.signed];omega
 rw[a,BitVec.allOnes_xor,BitVec.toNat_not,b,BitVec.toNat_ofInt];unfold IntKind.wrap;simp[IntKind.bits,IntKind.signed];omega
theorem aAx{n:Int}(a:0<=n)(b:n<=9223372036854775807):IntKind.u64.wrap n=n:=by
 unfold IntKind.wrap;simp[IntKind.bits,IntKind.signed];omega
set_option maxRecDepth 100000 in
theorem KV:∀x:Nat,x<256->IntKind.u8.wrap (B1 IntKind.u8.bits (x:Int)^^^B1 IntKind.u8.bits 0).toNat=(x:Int):=bK
set_option maxRecDepth 100000 in
theorem Qi:∀x:Nat,x<256->IntKind.u8.wrap (B1 IntKind.u8.bits (x:Int)^^^B1 IntKind.u8.bits 255).toNat=((255-x:Nat):Int):=bK
theorem WL(x:Nat):IntKind.u8.wrap (x:Int)=((x%256:Nat):Int):=by
 unfold IntKind.wrap;simp[IntKind.bits,IntKind.signed]
theorem Dv(M i:Nat)(h:i<8):(M:Int).fdiv (2^min (8*(i:Int)).toNat IntKind.u64.bits)=((M / 256^i:Nat):Int):=by
 show(M:Int).fdiv (2^min (8*(i:Int)).toNat 64)=((M / 256^i:Nat):Int);have e:(2:Int)^(8*i)=((256^i:Nat):Int):=by
  rw[H2,G5];rfl
 rw[show min (8*(i:Int)).toNat 64=8*i by omega,e,D2 _ (F3 _),G1]
section
attribute[local simp] aR bJ bF aO
attribute[local simp] kH.cond
theorem WM(n:Int)(Y:0<=n)(h:I64R n):Ok prog 59 [aI n] ⟨.own 1 ((intE n).map bD),true⟩:=by
 refine bT func59 rfl ntmps59 results59 λw0 X p=>?_;have r:=absE_lt h;have l:(absE n:Int)=n:=by unfold absE;rw[if_neg aE];omega
 have J:intE n=(128+(digF 8 (absE n)).length)::(digF 8 (absE n)).reverse:=by unfold intE;rw[if_neg aE];simp[show¬n<0 by omega]
 have w:=digF_lt 8 (absE n);obtain⟨h1,P⟩:=h;obtain⟨M,U⟩:∃M,M=absE n:=⟨_,rfl⟩;rw[<-U]at l r J w;apply aD;simp;refine fF.scope ?_;apply aD;simp[aAx Y P];apply aF;apply bE;simp[(show¬n<0 by omega)];apply aG;simp;apply aD;simp;apply aF;refine fF.label ?_;simp;refine bH (ι:=Nat×Int) (λ⟨k,o⟩=>bA [(3,.d (.int .u64 (M:Int))),(4,.d (.int .u8 o)),(5,.d (aI k))]) (λ⟨k,o⟩=>aK []) (λ⟨k,o⟩=>(digF 8 M).length=k/\k<=8/\o=0) ?_ λ⟨k,o⟩ v=>?_
 .apply aW;refine aZ (ι:=Nat) (λk=>bA [(3,.d (.int .u64 (M:Int))),(4,.d (.int .u8 0)),(5,.d (aI k))]) (λk=>aK []) (λk=>k<=8/\M<256^k) (λk=>k) 8 (aA p [3,4,5] [] (by simp[l])) (⟨A6 _,r⟩) λk a=>?_;apply aF;apply bE;simp;refine⟨λQ=>?_,λQ=>?_⟩
  .apply aG;simp;apply aW;apply fE;have W:0<k:=aE;obtain⟨i,V⟩:∃i,k=i+1:=⟨k-1,aE⟩;have A:i<8:=aE;have e:=Dv M i A;obtain⟨D,q⟩:∃D,D=M / 256^i:=⟨_,rfl⟩;rw[<-q]at e;have C:((k:Int)- 1)=(i:Int):=aE;apply aJ;simp[C,e];refine⟨aE,?_⟩;apply aM;simp;refine⟨λS=>?_,λS=>?_⟩
   .apply bP;simp;refine XV.mk (k,0) (aA p [3,4,5] []) ?_;refine⟨tI 8 M k a.2 (.inr ?_) a.1,a.1,rfl⟩;subst V;have m:0<M / 256^i:=by rw[<-q];omega
    rw[D3];exact(E4 (D7 bK)).1 m |> λh=>by simpa using h
   .apply aG;simp;apply aJ;simp;refine⟨aE,?_⟩;refine On.mk (k-1) (aA p [3,4,5] [] (by simp[show((k-1:Nat):Int)=(k:Int)- 1 by omega])) ?_ ?_
    .refine⟨aE,?_⟩;rw[show k-1=i by omega];have m:M / 256^i<1:=by rw[<-q];omega
     simpa using(E5 (D7 bK)).1 m
    .omega
  .apply bP;simp;refine XV.mk (k,0) (aA p [3,4,5] []) ?_;exact⟨tI 8 M k a.2 (.inl aE) a.1,a.1,rfl⟩
 .apply aF;obtain⟨s,Z,I⟩:=v;have G:IntKind.u8.wrap (128+(k:Int))=128+(k:Int):=KL aE aE;have b:=KV (128+k) aE;rw[<-I]at b;rw[show((128+k:Nat):Int)=128+(k:Int)by omega]at b;simp at b;apply aJ;simp[G,b];refine⟨aE,?_⟩;apply eP;simp;refine⟨aE,?_⟩;apply aW;refine aZ (ι:=Nat) (λj=>bA [(3,.d (.int .u64 (M:Int))),(4,.d (.int .u8 o)),(6,.ow 6 0 (j+1)),(7,.d (aI ((k:Int)- 1-(j:Int))))]) (λj=>aK [(6,.row false 1 (CY (128+k) (digF 8 M).reverse j))]) (λj=>j<=k) (λj=>k-j) 0 (aA p [3,4,6,7] [(29,6)] (hH:=by simp[bD,Hh])) (A7 _) λj N=>?_;apply aF;apply bE;simp;refine⟨λt=>?_,λt=>?_⟩
  .apply aG;simp;apply eG;have O:j<k:=aE;have B:(k:Int)- 1-(j:Int)=((k-1-j:Nat):Int):=aE;have e:=Dv M (k-1-j) aE;have E:(digF 8 M).reverse.length=k:=by rw[C5];exact s
   have g:=Hi (hd:=128+k) (L:=(digF 8 M).reverse) (j:=j) aE;have z:(digF 8 M).reverse[j]'aE=M / 256^(k-1-j)%256:=by
    have h:=Fo 8 M (k-1-j) aE;rw[E8];rw[A3 aE]at h;simp only[s];exact Option.some.inj h
   rw[z]at g;have F:=WL (M / 256^(k-1-j));have b:=KV (M / 256^(k-1-j)%256) (C8 _ bK);rw[<-I]at b;obtain⟨D,q⟩:∃D,D=M / 256^(k-1-j):=⟨_,rfl⟩;rw[<-q]at e F b g;obtain⟨H,u⟩:∃H,H=D%256:=⟨_,rfl⟩;rw[<-u]at F b g;simp at b;have f:=yW (hd:=128+k) (L:=(digF 8 M).reverse) (j:=j) aE;have d:=wV (hd:=128+k) (L:=(digF 8 M).reverse) (j:=j) aE;apply aJ;simp[B,e,F,b,f,d];refine⟨aE,?_⟩;apply aJ;simp;refine⟨aE,?_⟩;refine On.mk (j+1) (aA p [3,4,6,7] [(45,6)] (by simp[show((k-1-j:Nat):Int)- 1=(k:Int)- 1-((j:Int)+1)by omega]) (by simp[g,bD])) ?_ ?_
   .omega
   .omega
  .apply bP;simp;apply aD;simp;apply aH;have O:j=k:=aE;subst O;have E:(digF 8 M).reverse.length=j:=by rw[C5];exact s
   have d:=wV (hd:=128+j) (L:=(digF 8 M).reverse) (j:=j) aE;have f:=yW (hd:=128+j) (L:=(digF 8 M).reverse) (j:=j) aE;rw[J,s,<-KM (hd:=128+j) (L:=(digF 8 M).reverse) (j:=j) aE];simp[d,f];intro x b c K;obtain⟨y,_,rfl⟩:=B4.1 b;simp[bD,aU]at K;subst K;rfl
theorem WN(n:Int)(u:n<0)(h:I64R n):Ok prog 59 [aI n] ⟨.own 1 ((intE n).map bD),true⟩:=by
 refine bT func59 rfl ntmps59 results59 λw0 X q=>?_;have t:=absE_lt h;have m:(absE n:Int)= -1-n:=by unfold absE;rw[if_pos u];omega
 have P:intE n=(127-(digF 8 (absE n)).length)::((digF 8 (absE n)).map (λd=>255-d)).reverse:=by unfold intE;rw[if_pos u];simp[u]
 have C:=digF_lt 8 (absE n);obtain⟨V,h2⟩:=h;obtain⟨M,Z⟩:∃M,M=absE n:=⟨_,rfl⟩;rw[<-Z]at m t P C;apply aD;simp;refine fF.scope ?_;apply aD;simp;apply aF;apply bE;simp[u];have s:=YM V u;simp at s;have B:IntKind.u64.wrap ((((if IntKind.u64.signed=true then -1 else IntKind.u64.max)%2^IntKind.u64.bits).toNat^^^(IntKind.u64.wrap n%2^IntKind.u64.bits).toNat:Nat):Int)= -1-n:=by
  rw[if_neg bK,show(2:Int)^IntKind.u64.bits=18446744073709551616 by rfl];exact s
 apply aJ;simp[B];apply aD;simp;apply aF;refine fF.label ?_;simp;refine bH (ι:=Nat×Int) (λ⟨k,p⟩=>bA [(3,.d (.int .u64 (M:Int))),(4,.d (.int .u8 p)),(5,.d (aI k))]) (λ⟨k,p⟩=>aK []) (λ⟨k,p⟩=>(digF 8 M).length=k/\k<=8/\p=255) ?_ λ⟨k,p⟩ A=>?_
 .apply aW;refine aZ (ι:=Nat) (λk=>bA [(3,.d (.int .u64 (M:Int))),(4,.d (.int .u8 255)),(5,.d (aI k))]) (λk=>aK []) (λk=>k<=8/\M<256^k) (λk=>k) 8 (aA q [3,4,5] [] (by simp[m])) (⟨A6 _,t⟩) λk a=>?_;apply aF;apply bE;simp;refine⟨λW=>?_,λW=>?_⟩
  .apply aG;simp;apply aW;apply fE;have a0:0<k:=aE;obtain⟨i,hi⟩:∃i,k=i+1:=⟨k-1,aE⟩;have F:i<8:=aE;have f:=Dv M i F;obtain⟨D,r⟩:∃D,D=M / 256^i:=⟨_,rfl⟩;rw[<-r]at f;have H:((k:Int)- 1)=(i:Int):=aE;apply aJ;simp[H,f];refine⟨aE,?_⟩;apply aM;simp;refine⟨λY=>?_,λY=>?_⟩
   .apply bP;simp;refine XV.mk (k,255) (aA q [3,4,5] []) ?_;refine⟨tI 8 M k a.2 (.inr ?_) a.1,a.1,rfl⟩;subst hi;have o:0<M / 256^i:=by rw[<-r];omega
    rw[D3];exact(E4 (D7 bK)).1 o |> λh=>by simpa using h
   .apply aG;simp;apply aJ;simp;refine⟨aE,?_⟩;refine On.mk (k-1) (aA q [3,4,5] [] (by simp[show((k-1:Nat):Int)=(k:Int)- 1 by omega])) ?_ ?_
    .refine⟨aE,?_⟩;rw[show k-1=i by omega];have o:M / 256^i<1:=by rw[<-r];omega
     simpa using(E5 (D7 bK)).1 o
    .omega
  .apply bP;simp;refine XV.mk (k,255) (aA q [3,4,5] []) ?_;exact⟨tI 8 M k a.2 (.inl aE) a.1,a.1,rfl⟩
 .apply aF;obtain⟨v,c2,O⟩:=A;have K:IntKind.u8.wrap (128+(k:Int))=128+(k:Int):=KL aE aE;have b:=Qi (128+k) aE;rw[<-O]at b;rw[show((128+k:Nat):Int)=128+(k:Int)by omega,show 255-(128+k)=127-k by omega]at b;simp at b;apply aJ;simp[K,b];refine⟨aE,?_⟩;apply eP;simp;refine⟨aE,?_⟩;apply aW;refine aZ (ι:=Nat) (λj=>bA [(3,.d (.int .u64 (M:Int))),(4,.d (.int .u8 p)),(6,.ow 6 0 (j+1)),(7,.d (aI ((k:Int)- 1-(j:Int))))]) (λj=>aK [(6,.row false 1 (CY (127-k) ((digF 8 M).map (λd=>255-d)).reverse j))]) (λj=>j<=k) (λj=>k-j) 0 (aA q [3,4,6,7] [(29,6)] (hH:=by simp[bD,Hh])) (A7 _) λj S=>?_;apply aF;apply bE;simp;refine⟨λw=>?_,λw=>?_⟩
  .apply aG;simp;apply eG;have U:j<k:=aE;have G:(k:Int)- 1-(j:Int)=((k-1-j:Nat):Int):=aE;have f:=Dv M (k-1-j) aE;have I:((digF 8 M).map (λd=>255-d)).reverse.length=k:=by rw[C5,A8];exact v
   have l:=Hi (hd:=127-k) (L:=((digF 8 M).map (λd=>255-d)).reverse) (j:=j) aE;have E:((digF 8 M).map (λd=>255-d)).reverse[j]'aE=255-M / 256^(k-1-j)%256:=by
    have h:=Fo 8 M (k-1-j) aE;rw[E8,List.getElem_map];rw[A3 aE]at h;simp only[A8,v];rw[Option.some.inj h]
   rw[E]at l;have J:=WL (M / 256^(k-1-j));have b:=Qi (M / 256^(k-1-j)%256) (C8 _ bK);rw[<-O]at b;obtain⟨D,r⟩:∃D,D=M / 256^(k-1-j):=⟨_,rfl⟩;rw[<-r]at f J b l;obtain⟨N,z⟩:∃N,N=D%256:=⟨_,rfl⟩;rw[<-z]at J b l;simp at b;have g:=yW (hd:=127-k) (L:=((digF 8 M).map (λd=>255-d)).reverse) (j:=j) aE;have e:=wV (hd:=127-k) (L:=((digF 8 M).map (λd=>255-d)).reverse) (j:=j) aE;apply aJ;simp[G,f,J,b,g,e];refine⟨aE,?_⟩;apply aJ;simp;refine⟨aE,?_⟩;refine On.mk (j+1) (aA q [3,4,6,7] [(45,6)] (by simp[show((k-1-j:Nat):Int)- 1=(k:Int)- 1-((j:Int)+1)by omega]) (by simp[l,bD])) ?_ ?_
   .omega
   .omega
  .apply bP;simp;apply aD;simp;apply aH;have U:j=k:=aE;subst U;have I:((digF 8 M).map (λd=>255-d)).reverse.length=j:=by rw[C5,A8];exact v
   have e:=wV (hd:=127-j) (L:=((digF 8 M).map (λd=>255-d)).reverse) (j:=j) aE;have g:=yW (hd:=127-j) (L:=((digF 8 M).map (λd=>255-d)).reverse) (j:=j) aE;rw[P,v,<-KM (hd:=127-j) (L:=((digF 8 M).map (λd=>255-d)).reverse) (j:=j) aE];simp[e,g];intro x b c Q;obtain⟨y,_,rfl⟩:=B4.1 b;simp[bD,aU]at Q;subst Q;rfl
theorem YN(n:Int)(h:I64R n):Ok prog 59 [aI n] ⟨.own 1 ((intE n).map bD),true⟩:=by
 rcases Int.lt_or_le n 0 with q|q
 .exact WN n q h
 .exact WM n q h
end
section
attribute[local simp] lT lU oL lV jO oM lW lX rR oN oO oP oQ oS
attribute[local simp] rU pW oT wW oU oV gX kH.cond aQ IL fP bN rV rW lY wY wZ wX lZ mN sJ oW oX xB xC rX oY oZ Am An uH xA nU
def zS:List LV:=dM ⟨⟨0,0,0,0,0,0,0,0⟩,A5 64 0,0⟩
theorem YO:zS=A5 8 (.d (.int .u32 0))++A5 64 (.d (.int .u8 0))++[.d (.int .u64 0)]:=rfl
theorem WO(σ:List (Nat×Nat)):zS.map (ren σ 8)=zS:=mN _ _
theorem WP:zS.length=73:=gF rfl
theorem WQ:Ok prog 55 [] ⟨.d (.agg (kE emptyS)),true⟩:=by
 refine Cx func55 rfl ntmps55 results55 λb X a=>?_;apply aD;simp;apply aD;simp[bF];apply aH;simp;rfl
theorem SN(s:bC)(h:s.length<=2000000000):Ok prog 57 [.str s] ⟨.own 1 ((strE s).map bD),true⟩:=by
 refine bT func57 rfl ntmps57 results57 λk X i=>?_;apply aD;simp;apply aF;have g:=KN (s.length:Int);have d:A9 (intE s.length).length ((intE s.length).map bD)=(intE s.length).map bD:=A0 bB;refine bG (og 5 (.plain ⟨.own 1 ((intE s.length).map bD),true⟩)) ?_;simp[d];refine⟨⟨YN _ (len_R aE),aE⟩,?_⟩;apply aH;have a:=KP s;have e:(intE s.length).map bD++s.map (λb=>DV.int .u8 b.toNat)=(strE s).map bD:=by simp[strE,bD]
 simp[a,e];refine⟨A0 (by simp[a]),?_⟩;intro x j c f;simp[bD,aU]at f;subst f;rfl
theorem NH(st:Strm)(x:bC)(M:st.B.length=64)(P:st.n+x.length<1099511627776):Ok prog 56 [.agg (kE st),.str x] ⟨.d (.agg (kE (wU st x))),true⟩:=by
 refine Cx func56 rfl ntmps56 results56 λQ X C=>?_;apply aD;simp;apply eG;refine aZ (ι:=Strm×bC) (λ⟨p,y⟩=>bA [(1,.d (.str y)),(2,.bx 2 0),(4,.bx 4 0)]) (λ⟨p,y⟩=>aK [(2,.box false (dM p)),(4,.box false zS)]) (λ⟨p,y⟩=>p.B.length=64/\wU p y=wU st x/\p.n+y.length=st.n+x.length) (λ⟨p,y⟩=>y.length) (st,x) (aA C [1,2,4] [(2,2),(4,4)] (hH:=by simp[YO])) (⟨M,rfl,rfl⟩) λ⟨p,y⟩ m=>?_;apply aF;apply bE;simp;refine⟨λj=>?_,λj=>?_⟩
 .apply aG;simp;apply aW;apply aF;obtain⟨e,u,O⟩:=m;have a:=gF e;have z:=NG (NB e);have g:((p.n:Int)).tmod 64=((p.n%64:Nat):Int):=by rw[B8 aE];omega
  obtain⟨r,v⟩:∃r,r=p.n%64:=⟨_,rfl⟩;have K:r<64:=aE;rw[<-v]at g;have G:=Hf (n:=r) aE;have H:=tG (n:=r) aE;apply aJ;simp[a,z,g,G,H];apply aF;have I:((64:Int)-(r:Int)).toNat=64-r:=aE;have D:=SC e (k:=r) (y:=y.take (64-r)) (by rw[C0];omega);have b:(bF r p.B (y.take (64-r))).length=64:=by rw[BY (by rw[C0,e];omega),e]
  apply aJ;simp[a,I,D];refine⟨aE,?_⟩;apply aF;have d:roomS p y=min y.length (64-r):=by unfold roomS;rw[<-v]
  have B:roomS p y<=y.length:=aE;obtain⟨k,h⟩:∃k,k=roomS p y:=⟨_,rfl⟩;rw[<-h]at d B;apply aJ;simp[<-d];refine⟨aE,?_⟩;apply aF;have o:=gF (st:=⟨p.s,bF r p.B (y.take (64-r)),p.n⟩) b;have l:=NG (NB (st:=⟨p.s,bF r p.B (y.take (64-r)),p.n⟩) b);have A:=tG (n:=k) aE;have s:=tG (n:=p.n+k) aE;rw[show((p.n+k:Nat):Int)=(p.n:Int)+(k:Int)by omega]at s;have t:=SD (st:=⟨p.s,bF r p.B (y.take (64-r)),p.n⟩) b (p.n+k);rw[show((p.n+k:Nat):Int)=(p.n:Int)+(k:Int)by omega]at t;apply aJ;simp[o,l,A,s,t];apply aD;simp;refine⟨aE,?_⟩;apply aM;simp;refine⟨λL=>?_,λL=>?_⟩
  .have q:=gF (st:=⟨p.s,bF r p.B (y.take (64-r)),p.n+k⟩) b;have J:=aAo ⟨p.s,bF r p.B (y.take (64-r)),p.n+k⟩;have E:=SE ⟨p.s,bF r p.B (y.take (64-r)),p.n+k⟩ (comp p.s (bF r p.B (y.take (64-r))));refine fF.rd [] [[],[],[],[],[2],[],[2]] (og 35 (.gen ⟨[(2,0)],[],[],[(0,.box false (dM ⟨p.s,bF r p.B (y.take (64-r)),p.n+k⟩))],.d (.agg (Iz (comp p.s (bF r p.B (y.take (64-r))))))⟩)) ?_;simp[q,J,E,Du,IA];refine⟨KU ⟨p.s,bF r p.B (y.take (64-r)),p.n+k⟩ p.s b,?_⟩;have i:stepS p y=⟨comp p.s (bF r p.B (y.take (64-r))),bF r p.B (y.take (64-r)),p.n+k⟩:=by unfold stepS;rw[<-v,<-h,if_pos aE]
   refine On.mk (stepS p y,y.drop (roomS p y)) (aA C [1,2,4] [(2,2),(4,4)] (by simp[<-h]) (by simp[i,WO])) ?_ ?_
   .refine⟨Wg e y,(Hg j).trans u,?_⟩;show p.n+roomS p y+(y.drop (roomS p y)).length=_;rw[B7,<-h];omega
   .show(y.drop (roomS p y)).length<y.length;have:=room_pos (st:=p) j;rw[B7];omega
  .apply aG;simp;have i:stepS p y=⟨p.s,bF r p.B (y.take (64-r)),p.n+k⟩:=by unfold stepS;rw[<-v,<-h,if_neg aE]
   refine On.mk (stepS p y,y.drop (roomS p y)) (aA C [1,2,4] [(2,2),(4,4)] (by simp[<-h]) (by simp[i,WO])) ?_ ?_
   .refine⟨Wg e y,(Hg j).trans u,?_⟩;show p.n+roomS p y+(y.drop (roomS p y)).length=_;rw[B7,<-h];omega
   .show(y.drop (roomS p y)).length<y.length;have:=room_pos (st:=p) j;rw[B7];omega
 .apply bP;simp;apply aF;obtain⟨e,u,O⟩:=m;subst j;rw[Wh]at u;have a:=gF e;have f:=Bl e;have w:=qC e;have F:bF 0 zS (dM p)=dM p:=eR (by rw[WP,a];exact A6 _);apply aJ;simp[a,f,w,F,WP];apply aH;subst u;simp[a,f];intro c N;obtain⟨k,n,rfl⟩:=Wu _ c N;rfl
theorem YP(a:Strm)(m:bC)(F:HoldS m a)(hm:m.length<549755813888):Ok prog 58 [.agg (kE a)] ⟨.d (.agg (iZ (sha m))),true⟩:=by
 refine Cx func58 rfl ntmps58 results58 λw0 X r=>?_;obtain⟨t,h,_,_⟩:=id F;have f:=gF t;have v:=NG (NB t);obtain⟨n,hn⟩:∃n,n=m.length:=⟨_,rfl⟩;rw[<-hn]at h hm;have b:=F.hash;have K:IntKind.u64.wrap (8*(n:Int))=8*(n:Int):=tG (n:=8*n) aE;have s:DV.int .u8 128=pV 128:=rfl;have D:DV.int .u8 0=pV 0:=rfl;apply aD;simp;apply aD;simp[f,v,h,K];apply aD;simp;apply eG;refine aZ (ι:=Nat) (λj=>bA [(1,.bx 1 0),(2,.bx 2 0),(3,.d (.int .u64 (8*(n:Int)))),(4,.ow 4 0 (1+j))]) (λj=>aK [(1,.box false (dM a)),(2,.box false (uI a.s 0)),(4,.row false 1 ((128::A5 j 0).map pV))]) (λj=>j<=(119-n%64)%64) (λj=>64-j) 0 (aA r [1,2,3,4] [(1,1),(2,2),(11,4)] (hH:=by simp[s,D,Hk])) (A7 _) λj a1=>?_;apply fE;have J:=Hf (n:=n) aE;have w:((n:Int)+(1+(j:Int))).tmod 64=(((n+1+j)%64:Nat):Int):=by rw[B8 aE];omega
 apply aJ;simp[f,v,h,J,w];refine⟨aE,?_⟩;apply aM;simp;refine⟨λh3=>?_,λh3=>?_⟩
 .apply aG;simp;apply aW;have d:A9 (1+j) (pV 128::A5 j (pV 0))=pV 128::A5 j (pV 0):=A0 kD;have P:A5 j (pV 0)++[pV 0]=A5 (j+1) (pV 0):=List.replicate_succ'.symm;apply aJ;simp;refine⟨aE,?_⟩;refine On.mk (j+1) (aA r [1,2,3,4] [(1,1),(2,2),(22,4)] (by simp[H0]) (by simp[D,d,P])) ?_ ?_
  .omega
  .omega
 .apply bP;simp;apply fE;have Z:j=(119-n%64)%64:=aE;apply aJ;simp;apply aW;refine aZ (ι:=Nat) (λi=>bA [(1,.bx 1 0),(2,.bx 2 0),(3,.d (.int .u64 (8*(n:Int)))),(4,.ow 4 0 (Bp n i).length),(23,.d (aI i))]) (λi=>aK [(1,.box false (dM a)),(2,.box false (uI a.s 0)),(4,.row false 1 ((Bp n i).map pV))]) (λi=>i<=8) (λi=>8-i) 0 (aA r [1,2,3,4,23] [(1,1),(2,2),(4,4)] (by simp[Hl,<-Z,Nat.add_comm]) (by simp[Hl,<-Z])) (A7 _) λi a2=>?_;apply aD;simp;apply aF;apply aM;simp;refine⟨λh6=>?_,λh6=>?_⟩
  .apply aG;simp;apply eG;apply aD;simp;have B:=WF (8*n) (i:=i) aE;have d:A9 (Bp n i).length ((Bp n i).map pV)=(Bp n i).map pV:=A0 bB;rw[show((8*n:Nat):Int)=8*(n:Int)by omega]at B;have W:DV.int .u8 (IntKind.u8.wrap (8*(n:Int) / 256^(7-i)))=pV (A2 (8*n / 256^(7-i))):=by rw[<-Zr];simp
   have y:=KR n (i:=i) aE;apply aJ;simp[B,d];refine⟨aE,?_⟩;apply aJ;simp;refine⟨aE,?_⟩;refine On.mk (i+1) (aA r [1,2,3,4,23] [(1,1),(2,2),(34,4)] (by simp[Hm n (show i<8 by omega)]) (by simp[Hm n (show i<8 by omega),W])) ?_ ?_
   .omega
   .omega
  .apply bP;simp;apply aF;have G:i=8:=aE;subst G;rw[KQ];have u:=Bl t;have a0:=qC t;have y:=KR n (i:=8) aE;rw[KQ]at y;have d:A9 (padS n).length ((padS n).map pV)=(padS n).map pV:=A0 bB;have I:=aBa (padS n);have l:=NH a (padS n) t aE;rw[h]at b;obtain⟨q,hq⟩:∃q,q=wU a (padS n):=⟨_,rfl⟩;rw[<-hq]at b l;have A:q.B.length=64:=by rw[hq];exact(Al F _).1
   have p:=gF A;have N:=qC A;have o:bF 0 (dM a) (dM q)=dM q:=eR (by rw[f,p];exact A6 _);refine bG (og 39 (.plain ⟨.d (.agg (kE q)),true⟩)) ?_;simp[f,u,d,I,N,p,o];refine⟨⟨λ_ _=>⟨_,rfl⟩,l⟩,?_⟩;apply aD;simp;apply eP;simp;apply aW;refine aZ (ι:=Nat) (λi=>bA [(1,.bx 1 0),(2,.bx 2 0),(6,.bx 6 0),(40,.d (aI i))]) (λi=>aK [(1,.box false (dM q)),(2,.box false (uI a.s 0)),(6,.box false (uI q.s i))]) (λi=>i<=32) (λi=>32-i) 0 (aA r [1,2,6,40] [(1,1),(2,2),(6,6)] (hH:=by simp[Hk,D])) (A7 _) λi Y=>?_;apply aD;simp;apply aF;apply aM;simp;refine⟨λE=>?_,λE=>?_⟩
   .apply aG;simp;apply eG;apply aD;simp;have M:((i:Int) / 4).toNat=i / 4:=aE;have O:((i:Int)).tmod 4=(i:Int)%4:=B8 aE;have S:=aAv q (i:=i / 4) aE;have Q:((24:Int)- 8*((i:Int)%4)).toNat=24-8*(i%4):=aE;have g:=Fm q.s (i:=i) aE;have z:=WE q.s (show i<32 by omega);apply aJ;simp[M,O,S,Q,g,p];refine⟨aE,?_⟩;apply aJ;simp;refine⟨aE,?_⟩;refine On.mk (i+1) (aA r [1,2,6,40] [(1,1),(2,2),(6,6)] (hH:=by simp[z])) ?_ ?_
    .omega
    .omega
   .apply bP;simp;apply aF;have G:i=32:=aE;subst G;have g:=Fm q.s (i:=32) aE;have L:A9 32 (uI q.s 32)=uI q.s 32:=A0 (by rw[g];exact A6 _);have x:=WD q.s;rw[b]at x;have H:zN (uI q.s 32)=some (iZ (sha m)):=by rw[x];exact kO _
    have C:=Fm a.s (i:=0) aE;have e:(iZ (sha m)).length=32:=by simp[iZ,IB]
    have o:bF 0 (uI a.s 0) ((iZ (sha m)).map LV.d)=(iZ (sha m)).map LV.d:=eR (by rw[C,A8,e];exact A6 _);apply aJ;simp[g,L,H,C,e,o];apply aH;have V:A9 32 ((iZ (sha m)).map LV.d)=(iZ (sha m)).map LV.d:=A0 (by simp[e]);have U:=kO (iZ (sha m));simp[e,V,U];intro c hc;obtain⟨k,n,rfl⟩:=IC _ c hc;rfl
end
section
attribute[local simp] lT lU oL lV jO oM lW lX rR oN oO oP oQ oS
attribute[local simp] rU pW oT wW oU oV gX kH.cond aQ IL fP bN rV rW lY wY wZ wX lZ mN sJ oW oX xB xC rX oY oZ Am An uH xA nU tF
theorem aBc(a:Nat)(parts:List bC)(S:parts.length<=200)(H:∀s∈parts,s.length<=2000000000):Ok prog 13 [aI a,.sl (parts.map .str)] ⟨.d (.agg (iZ (SH a parts))),true⟩:=by
 refine Cx func13 rfl ntmps13 results13 λU X G=>?_;have P:DV.int .u8 (IntKind.u8.wrap (a:Int))=pV (A2 a):=Zr a;have F:∀s∈parts,(strE s).length<=2000000009:=λs h=>by
  have:=H s h;have:=KN (s.length:Int);rw[KP];omega
 have E:∀i,(NC a (parts.take i)).length<=400000002000:=λi=>by
  have Q:=Qh a (k:=2000000009) (parts:=parts.take i) λs h=>F s (List.mem_of_mem_take h);have J:(parts.take i).length<=200:=by rw[C0];omega
  have g:(parts.take i).length*2000000009<=200*2000000009:=Nat.mul_le_mul J (A6 _);omega
 have t:(iZ (sha (NC a parts))).length=32:=by simp[iZ,IB]
 apply aD;simp;apply aF;refine fF.rd [[12,5],[5,9],[5,9],[5,9],[5,9],[5],[12,14,9]] [[9],[],[],[12],[],[14],[5],[5]] (λ|9=>some<| .plain ⟨.d (.agg (kE emptyS)),true⟩|14=>some<| .plain ⟨.d (.agg (kE (wU emptyS [A2 a]))),true⟩|_=>none) ?_;simp[P];refine⟨⟨⟨⟨WQ,_,rfl⟩,NH emptyS [A2 a] rfl (Nat.lt_of_lt_of_le (show 1<2 by decide) bK)⟩,qC (qD a parts 0 (A7 _)).1⟩,?_⟩;apply fE;have I:DV.int .u8 0=pV 0:=rfl;have x:∀Z:List LV,Z.length=73->bF 0 Z (dM (wU emptyS [A2 a]))=dM (wU emptyS [A2 a]):=λZ p=>eR (by rw[p,gF (st:=wU emptyS [A2 a]) (qD a parts 0 (A7 _)).1];exact A6 _);apply aJ;simp;apply aW;refine aZ (ι:=Nat) (λi=>bA [(4,.bx 4 0),(5,.bx 5 0),(15,.d (.sl (parts.map .str))),(16,.d (aI parts.length)),(17,.d (aI i))]) (λi=>aK [(4,.box false (A5 16 (.d (pV 0)))),(5,.box false (dM (To a parts i)))]) (λi=>i<=parts.length) (λi=>parts.length-i) 0 (aA G [4,5,15,16,17] [(4,4),(5,5)] (hH:=by simp[I,To,x])) (A7 _) λi N=>?_;apply aD;simp;apply aF;apply aM;simp;refine⟨λg=>?_,λg=>?_⟩
 .apply aG;simp;apply eG;apply aD;simp[g];have j:=qD a parts i aE;have m:=qD a parts (i+1) aE;have u:=j.1;have e:=gF u;have d:=Bl u;have O:=F parts[i] (E0 g);have z:=H parts[i] (E0 g);have C:A9 (strE parts[i]).length ((strE parts[i]).map bD)=(strE parts[i]).map bD:=A0 bB;have w:=aAr (strE parts[i]);have A:To a parts (i+1)=wU (To a parts i) (toS (strE parts[i])):=by rw[To,A1,A3 g];rfl
  have o:=E i;have D:=NH (To a parts i) (toS (strE parts[i])) u (by rw[j.2.1,Qg];omega);rw[<-A]at D;have f:=gF m.1;have v:=qC m.1;have y:bF 0 (dM (To a parts i)) (dM (To a parts (i+1)))=dM (To a parts (i+1)):=eR (by rw[e,f];exact A6 _);refine fF.rd [[23]] [[],[],[23],[],[25],[5]] (λ|23=>some<| .plain ⟨.own 1 ((strE parts[i]).map bD),true⟩|25=>some<| .plain ⟨.d (.agg (kE (To a parts (i+1)))),true⟩|_=>none) ?_;simp[g,C,w,e,d,f,v];refine⟨⟨⟨SN _ z,λ_ _=>⟨_,rfl⟩⟩,D⟩,?_⟩;apply aJ;simp;refine⟨aE,?_⟩;refine On.mk (i+1) (aA G [4,5,15,16,17] [(4,4),(5,5)] (hH:=by simp[y])) ?_ ?_
  .omega
  .omega
 .apply bP;simp;apply aF;have M:i=parts.length:=aE;subst M;have j:=qD a parts parts.length (A6 _);have o:=E parts.length;rw[G2]at j o;have e:=gF j.1;have d:=Bl j.1;have l:∀Z:List LV,Z.length<=32->bF 0 Z ((iZ (sha (NC a parts))).map LV.d)=(iZ (sha (NC a parts))).map LV.d:=λZ p=>eR (by rw[A8,t];exact p);refine bG (og 28 (.plain ⟨.d (.agg (iZ (sha (NC a parts)))),true⟩)) ?_;simp[e,d,t,l];refine⟨YP _ _ j aE,?_⟩;apply aF;have K:((iZ (sha (NC a parts))).map LV.d).length=32:=by rw[A8,t]
  have r:A9 16 ((iZ (sha (NC a parts))).map LV.d)=(iZ (SH a parts)).map LV.d:=by simp[iZ,SH]
  have q:=kO (iZ (SH a parts));have b:(iZ (SH a parts)).length=16:=by simp[iZ,Dt]
  have l:∀Z:List LV,Z.length<=16->bF 0 Z ((iZ (SH a parts)).map LV.d)=(iZ (SH a parts)).map LV.d:=λZ p=>eR (by rw[A8,b];exact p);apply aJ;simp[t,r,q,b,l];apply aH;have B:A9 16 ((iZ (SH a parts)).map LV.d)=(iZ (SH a parts)).map LV.d:=A0 (by simp[b]);simp[b,B,q];intro c L;obtain⟨k,n,rfl⟩:=IC _ c L;rfl
set_option maxRecDepth 100000
end
section
attribute[local simp] lT lU oL lV jO oM lW lX rR oN oO oP oQ oS
attribute[local simp] rU pW oT wW oU oV gX kH.cond aQ IL fP bN rV rW lY wY wZ wX lZ mN sJ oW oX xB xC rX oY oZ Am An uH xA nU tF
set_option maxRecDepth 100000
end
section
attribute[local simp] lT lU oL lV jO oM lW lX rR oN oO oP oQ oS
attribute[local simp] rU pW oT wW oU oV gX kH.cond aQ IL fP bN rV rW lY wY wZ wX lZ mN sJ oW oX xB xC rX oY oZ Am An uH xA nU tF
def xD(l:List Df):List bC:=l.flatMap λd=>[d.name,lR d]
theorem Fp:∀l:List Df,(xD l).length=2*l.length
 |[]=>rfl
 |d::l=>by have:=Fp l;simp only[xD,F5,B0,C1,E3]at*;omega
theorem SO{l:List Df}{k:Nat}(h:k<l.length):xD (l.take (k+1))=xD (l.take k)++[l[k].name,lR l[k]]:=by
 unfold xD;rw[<-B3 h,F1];simp
theorem SP{l:List Df}{k:Nat}(h:k<=l.length):(xD (l.take k)).length=2*k:=by rw[Fp,C0,E2 h]
def ID(l:List Df):List DV:=iZ (SH 8 (xD (bV l)))
def IE(l:List Df):Prop:=l.length<40/\∀d∈l,d.name.length<=2000000000/\(lR d).length<=2000000000
theorem IE.parts{l:List Df}(h:IE l):∀s∈xD (bV l),s.length<=2000000000:=λs a=>by
 obtain⟨d,b,a⟩:=List.mem_flatMap.1 a;have:=h.2 d ((nT l).mem_iff.1 b);simp at a;rcases a with rfl|rfl<;>omega
theorem Fq(l:List Df)(h:IE l):Ok prog 27 [fT l] ⟨.d (.agg (ID l)),true⟩:=by
 refine Cx func27 rfl ntmps27 results27 λC X u=>?_;obtain⟨A,_⟩:=id h;have q:=fR l;have d:=Dq l A;have g:=Fp (bV l);have j:=aBc 8 (xD (bV l)) aE h.parts;have m:iZ (SH 8 (xD (bV l)))=ID l:=rfl;rw[m]at j;obtain⟨D,i⟩:∃D,D=ID l:=⟨_,rfl⟩;rw[<-i]at j;rw[<-i];have a:D.length=16:=by rw[i];simp[ID,iZ,Dt]
 have f:∀Z:List LV,Z.length<=16->bF 0 Z (D.map LV.d)=D.map LV.d:=λZ y=>eR (by rw[A8,a];exact y);have v:DV.int .u8 0=pV 0:=rfl;obtain⟨S,x⟩:∃S,S=bV l:=⟨_,rfl⟩;rw[<-x]at q d g j;have B:A9 S.length (S.map Df.d)=S.map Df.d:=A0 bB;apply aD;simp;apply aD;simp;apply aF;refine dH (og 7 (.plain ⟨.own 2 (S.map Df.d),true⟩)) ?_;simp;refine⟨d,?_⟩;apply aW;refine aZ (ι:=Nat) (λk=>bA [(2,.bx 2 0),(3,.ow 3 0 (2*k)),(7,.ow 7 0 S.length),(8,.d (aI S.length)),(9,.d (aI k))]) (λk=>aK [(2,.box false (A5 16 (.d (pV 0)))),(3,.row false 1 ((xD (S.take k)).map .str)),(7,.row false 2 (S.map Df.d))]) (λk=>k<=S.length) (λk=>S.length-k) 0 (aA u [2,3,7,8,9] [(2,2),(3,3),(7,7)] (hH:=by simp[v,xD])) (A7 _) λk z=>?_;apply aD;simp;apply aF;apply aM;simp;refine⟨λw=>?_,λw=>?_⟩
 .apply aG;simp;apply eG;apply aF;have e:k<S.length:=aE;apply aJ;simp[e,bF];have o:=SP (l:=S) (k:=k) aE;have b:A9 (2*k) ((xD (S.take k)).map DV.str)=(xD (S.take k)).map DV.str:=A0 (by simp[o]);have p:=Ak S[k];refine fF.rd [[17,18],[17],[17]] [[],[],[],[],[17],[18],[3,19]] (og 17 (.plain ⟨.d (.str (lR S[k])),true⟩)) ?_;simp[e,b];refine⟨⟨⟨by simpa using p,rfl⟩,aE⟩,?_⟩;apply aJ;simp;refine⟨aE,?_⟩;refine On.mk (k+1) (aA u [2,3,7,8,9] [(2,2),(19,3),(7,7)] (by simp[show 2*k+2=2*(k+1)by omega]) (by simp[SO e])) ?_ ?_
  .omega
  .omega
 .apply bP;simp;apply aF;have e:k=S.length:=aE;subst e;have b:A9 (2*S.length) ((xD S).map DV.str)=(xD S).map DV.str:=A0 (by simp[g]);refine bG (og 22 (.plain ⟨.d (.agg D),true⟩)) ?_;simp[b,a,f];refine⟨by simpa using j,?_⟩;apply aH;have s:A9 16 (D.map LV.d)=D.map LV.d:=A0 (by simp[a]);have r:=kO D;simp[a,s,r];intro c t;rw[i]at t;obtain⟨k,n,rfl⟩:=IC _ c t;rfl
end
theorem Bq{a b:List Df}(p:a.Perm b):(chkR a).2=0↔(chkR b).2=0:=by
 rw[builds_iff,builds_iff];exact⟨λh=>h.perm p,λh=>h.perm p.symm⟩
theorem NI{a b:List Df}(p:a.Perm b):testsR a=testsR b:=by
 unfold testsR;by_cases h:(chkR a).2=0
 .rw[if_neg (by simpa using h),if_neg (by simpa using(Bq p).1 h)];show testsRt a=testsRt b;refine qB bC.sto (testsRt_spec a).1 (testsRt_spec b).1 λs=>?_;rw[(testsRt_spec a).2,(testsRt_spec b).2];exact⟨λ⟨d,c,r⟩=>⟨d,p.mem_iff.1 c,r⟩,λ⟨d,c,r⟩=>⟨d,p.mem_iff.2 c,r⟩⟩
 .rw[if_pos h,if_pos λq=>h ((Bq p).2 q)]
theorem WR{l:List Df}(c:(l.map Df.name).Nodup){x:Df}(e:x∈l):usesR l x.name=if(parseS x.text).2.2≠0 then([],(parseS x.text).2.2)else(putAll (bX (parseS x.text).1),0):=by
 obtain⟨b,f,a⟩:=tAt_mem c e;unfold usesR;unfold kG at b a;rw[mM]at b a;cases q:l.findIdx? (λd=>decide (d.name=x.name))with
 |none=>rw[q]at b;simp[pU]at b
 |some i=>
  rw[q]at a;simp only[pU,F7]at a;unfold usesRAt;simp only[a]
theorem SQ{a b:List Df}(p:a.Perm b)(c:(a.map Df.name).Nodup){x:Df}(d:x∈a):usesR a x.name=usesR b x.name:=by
 rw[WR c d,WR ((p.map _).nodup_iff.1 c) (p.mem_iff.1 d)]
theorem NJ{a b:List Df}(p:a.Perm b){x:Df}(d:x∈a):((sliceR a x.name).2=0↔(sliceR b x.name).2=0)/\(sliceR a x.name).1=(sliceR b x.name).1:=by
 by_cases h:(chkR a).2=0
 .have c:=builds_iff.1 h;have g:=c.perm p;rw[slice_b c d,slice_b g (p.mem_iff.1 d),slice_same c g d λe _=>p.mem_iff];exact⟨Iff.rfl,rfl⟩
 .have f:¬(chkR b).2=0:=λq=>h ((Bq p).2 q);have i:sliceR a x.name=([],(chkR a).2):=by unfold sliceR;rw[if_pos h]
  have j:sliceR b x.name=([],(chkR b).2):=by unfold sliceR;rw[if_pos f]
  rw[i,j];exact⟨⟨λq=>absurd q h,λq=>absurd q f⟩,rfl⟩
theorem Ho{a b:List Df}(p:a.Perm b)(c:(a.map Df.name).Nodup):bV a=bV b:=sortD_uniq p c
theorem NK(a:List Df):Bk a a=true:=by simp[Bk]
theorem SR(l:List Df)(a:bC)(e:l.length<40):(sliceR l a).1.length<=1000000000000:=by
 unfold sliceR;split
 .simp
 .split
  .simp
  .have b:=putS_len (reachR l a false) a;have c:=reachR_len l a false;have d:=allU_len l;simp only[A8];omega
theorem SS{N:List bC}(h:¬N.Nodup):∃k,∃c:k<N.length,(N.take k).Nodup/\N[k]∈N.take k:=by
 have:∀n,n<=N.length->(N.take n).Nodup\/∃k,∃c:k<N.length,(N.take k).Nodup/\N[k]∈N.take k:=λn=>by
  induction n with
  |zero=>exact λ_=>.inl bB
  |succ n ih=>
   intro d;rcases ih aE with a|a
   .by_cases b:N[n]∈N.take n
    .exact .inr ⟨n,aE,a,b⟩
    .exact .inl ((nodup_take_succ aE).2 ⟨a,b⟩)
   .exact .inr a
 rcases this N.length (A6 _)with a|a
 .rw[G2]at a;exact absurd a h
 .exact a
section
attribute[local simp] aR bJ bF aO aL aX aP
attribute[local simp] kH.cond Nd.d_eq nd_t nd_dr nd_td ndsD aQ bL bN
theorem tJ(n:Int)(a: -999<=n)(b:n<=999):Ok prog 149 [aI n] ⟨.d (.str (itoaS n)),true⟩:=by
 refine bT func149 rfl ntmps149 results149 λd X c=>?_;apply aD;simp;refine dH (og 4 (.plain ⟨.d (.str (itoaS n)),true⟩)) ?_;simp;refine⟨jK n a b,?_⟩;apply aH;simp
def ST(word letter:bC)(i:Int)(text:bC):Df:=⟨letter++itoaS i,word++[32]++(letter++itoaS i)++text⟩
theorem WS(c a:bC)(i:Int)(b:bC)(d: -999<=i)(e:i<=999)(g:(itoaS i).length<=1000)(k:c.length<=1000)(f:a.length<=1000)(j:b.length<=1000000):Ok prog 273 [.str c,.str a,aI i,.str b] ⟨.d (ST c a i b).d,false⟩:=by
 refine Cx func273 rfl ntmps273 results273 λl X h=>?_;apply aD;simp;refine dH (og 12 (.plain ⟨.d (.str (itoaS i)),true⟩)) ?_;simp;refine⟨⟨tJ i d e,aE⟩,?_⟩;apply aD;simp;refine⟨⟨⟨aE,aE⟩,aE⟩,?_⟩;apply aH;simp[ST,Df.d]
def rD(n:Nat)(b:Int)(i:Nat):Nat:=let k:=(i+(bS b (n:Int)).toNat)%n;if b.tmod 2≠0 then n-1-k else k
def mU(l:List Df)(b:Int):List Df:=(A4 l.length).map λi=>l.getD (rD l.length b i) default
theorem Fr(l:List Df)(b:Int)(F:l.length<=1000000)(z: -9223372036854775808<=b)(A:b<=9223372036854775807):Ok prog 33 [fT l,aI b] ⟨.own 2 ((mU l b).map Df.d),true⟩:=by
 refine bT func33 rfl ntmps33 results33 λG X g=>?_;have d:(mU l b).length=l.length:=by simp[mU]
 apply aD;simp;apply aD;simp;apply eP;simp;apply aW;refine aZ (ι:=Nat) (λi=>bA [(0,.d (fT l)),(1,.d (aI b)),(5,.ow 5 0 i),(6,.d (aI (i:Nat)))]) (λi=>aK [(5,.row false 2 (((mU l b).take i).map Df.d))]) (λi=>i<=l.length) (λi=>l.length-i) 0 (aA g [0,1,5,6] [(5,5)]) (A7 _) λi D=>?_;apply aF;apply bE;simp;refine⟨λB=>?_,λB=>?_⟩
 .apply aG;simp;apply eG;apply aF;have s:i<l.length:=aE;have y:=eS b (l.length:Int) z A aE;have E:=dO b (l.length:Int) aE;obtain⟨m,u⟩:∃m:Nat,bS b (l.length:Int)=(m:Int):=⟨(bS b (l.length:Int)).toNat,aE⟩;rw[u]at y E;have a:((i:Int)+(m:Int)).tmod (l.length:Int)=(((i+m)%l.length:Nat):Int):=by rw[<-Int.natCast_add];rfl
  have o:l≠[]:=λe=>by rw[e]at s;simp at s
  have j:(i+m)%l.length<l.length:=C8 _ aE;obtain⟨k,t⟩:∃k,(i+m)%l.length=k:=⟨_,rfl⟩;rw[t]at a j;have c:rD l.length b i=if b.tmod 2≠0 then l.length-1-k else k:=by unfold rD;rw[u];simp only[F7,t]
  refine bG (og 18 (.plain ⟨.d (aI (m:Int)),true⟩)) ?_;simp[a];refine⟨⟨⟨by simpa using y,aE,aE⟩,o⟩,?_⟩;refine bH (ι:=Unit) (λw=>bA [(0,.d (fT l)),(1,.d (aI b)),(5,.ow 5 0 i),(6,.d (aI (i:Nat))),(7,.d (aI ((rD l.length b i:Nat):Int)))]) (λw=>aK [(5,.row false 2 (((mU l b).take i).map Df.d))]) (λw=>True) ?_ λw C=>?_
  .apply bE;simp;refine⟨λh=>?_,λh=>?_⟩
   .have q:rD l.length b i=l.length-1-k:=(by rw[c,if_pos h]);apply aJ;simp;refine⟨⟨aE,aE⟩,?_⟩;exact(aA g [0,1,5,6,7] [(5,5)] (by simp[q,show(l.length:Int)- 1-(k:Int)=((l.length-1-k:Nat):Int)by omega]))
   .have q:rD l.length b i=k:=by rw[c,if_neg (by simpa using h)]
    apply aG;simp;exact(aA g [0,1,5,6,7] [(5,5)] (by simp[q]))
  .have f:rD l.length b i<l.length:=by rw[c];split<;>omega
   obtain⟨x,v⟩:∃x,l[rD l.length b i]=x:=⟨_,rfl⟩;have p:(mU l b).take (i+1)=(mU l b).take i++[x]:=by
    rw[C7 aE];simp[mU,A3 f,v]
   have n:A9 (i+1) (D0 Df.d (mU l b))=A9 i (D0 Df.d (mU l b))++[x.d]:=(by rw[<-D9,p,B2,D9];rfl);apply aJ;simp[f,v];refine⟨⟨aE,aE⟩,?_⟩;apply aJ;simp;refine⟨aE,?_⟩;refine On.mk (i+1) (aA g [0,1,5,6] [(37,5)] (hH:=by simp[n,G8,Df.d])) ?_ ?_
   .omega
   .omega
 .apply bP;simp;apply aD;simp;apply aH;have e:i=l.length:=aE;have r:A9 l.length (D0 Df.d (mU l b))=D0 Df.d (mU l b):=A0 (by rw[A8,d];exact A6 _);simp[e,d,r]
end
structure R3 where
 w:bC
 l:bC
 t:bC
def R3.d(r:R3):DV:=.agg [.str r.w,.str r.l,.str r.t]
def SU(i:Nat)(rows:List R3):List Df:=rows.map λr=>ST r.w r.l (i:Int) (lQ r.t i)
def WT:List bC:=[[120,35,32,61,61,32,50],[49,32,60,61,32,120,35],[120,35,32,60,32,50],[120,35,32,61,61,32,51]]
def Fs:List bC:=[[97,99,113,117,105,114,101,32,97,35,59,32,97,99,113,117,105,114,101,32,98,35,59,32,114,101,108,101,97,115,101,32,98,35,59,32,114,101,108,101,97,115,101,32,97,35,59],[97,99,113,117,105,114,101,32,98,35,59,32,97,99,113,117,105,114,101,32,97,35,59,32,114,101,108,101,97,115,101,32,97,35,59,32,114,101,108,101,97,115,101,32,98,35,59]]
def WU:List bC:=[[36,97,32,60,32,36,98],[36,98,32,60,32,36,97]]
def KW:List bC:=[[36,97,32,61,61,32,36,98],[36,97,32,43,32,36,98,32,60,32,51]]
def Ft:List bC:=[[],[32,119,114,105,116,101,32,102,35,32,55,59]]
def KX:List bC:=[[32,123,32,99,104,101,99,107,32,115,104,97,114,101,100,32,61,61,32,48,59,32,115,104,97,114,101,100,32,61,32,49,59,32,125],[32,123,32,115,104,97,114,101,100,32,61,32,115,104,97,114,101,100,32,43,32,49,59,32,99,104,101,99,107,32,115,104,97,114,101,100,32,60,32,50,59,32,125]]
def KY:List bC:=[[49],[36,97,32,61,61,32,48]]
def uJ(v:Nat):bC:=WT.getD (v / 2%4) []
def iO(v:Nat):bC:=Fs.getD (v%2) []
def uV(v:Nat):bC:=WU.getD (v / 2%2) []
def mV(v:Nat):bC:=KW.getD (v / 2%2) []
def iP(v:Nat):bC:=Ft.getD (v%2) []
def mW(v:Nat):bC:=KX.getD (v%2) []
def mX(v:Nat):bC:=KY.getD (v / 9%2) []
def cS(v:Nat):Nat->List R3
 |0=>[⟨[118,97,114],[120],[32,61,32]++itoaS ((v%2:Nat):Int)++[59]⟩,⟨[99,104,97,110],[99],[32,49,59]⟩,⟨[112,114,111,99],[112],[32,123,32,120,35,32,61,32,120,35,32,43,32,49,59,32,115,101,110,100,32,99,35,32,49,59,32,125]⟩,⟨[116,101,115,116],[116],[32,123,32,103,111,32,112,35,59,32,120,35,32,61,32,120,35,32,43,32,49,59,32,114,101,99,118,32,99,35,32,36,97,59,32,99,104,101,99,107,32]++uJ v++[59,32,125]⟩]
 |1=>[⟨[118,97,114],[120],[32,61,32]++itoaS ((v%2:Nat):Int)++[59]⟩,⟨[108,111,99,107],[109],[59]⟩,⟨[99,104,97,110],[99],[32,49,59]⟩,⟨[112,114,111,99],[112],[32,123,32,97,99,113,117,105,114,101,32,109,35,59,32,120,35,32,61,32,120,35,32,43,32,49,59,32,114,101,108,101,97,115,101,32,109,35,59,32,115,101,110,100,32,99,35,32,49,59,32,125]⟩,⟨[116,101,115,116],[116],[32,123,32,103,111,32,112,35,59,32,97,99,113,117,105,114,101,32,109,35,59,32,120,35,32,61,32,120,35,32,43,32,49,59,32,114,101,108,101,97,115,101,32,109,35,59,32,114,101,99,118,32,99,35,32,36,97,59,32,99,104,101,99,107,32]++uJ v++[59,32,125]⟩]
 |2=>[⟨[99,104,97,110],[113],[32]++itoaS ((1+v%2:Nat):Int)++[59]⟩,⟨[112,114,111,99],[112],[32,123,32,115,101,110,100,32,113,35,32,49,59,32,115,101,110,100,32,113,35,32,50,59,32,125]⟩,⟨[116,101,115,116],[116],[32,123,32,103,111,32,112,35,59,32,114,101,99,118,32,113,35,32,36,97,59,32,114,101,99,118,32,113,35,32,36,98,59,32,99,104,101,99,107,32]++uV v++[59,32,125]⟩]
 |3=>[⟨[99,104,97,110],[114],[32,48,59]⟩,⟨[99,104,97,110],[99],[32,49,59]⟩,⟨[118,97,114],[120],[32,61,32,48,59]⟩,⟨[112,114,111,99],[112],[32,123,32,114,101,99,118,32,114,35,32,36,118,59,32,120,35,32,61,32,49,59,32,115,101,110,100,32,99,35,32,49,59,32,125]⟩,⟨[112,114,111,99],[111],[32,123,32,114,101,99,118,32,114,35,32,36,118,59,32,120,35,32,61,32,50,59,32,115,101,110,100,32,99,35,32,49,59,32,125]⟩,⟨[116,101,115,116],[116],[32,123,32,103,111,32,112,35,59,32,103,111,32,111,35,59,32,115,101,110,100,32,114,35,32,53,59,32,114,101,99,118,32,99,35,32,36,97,59,32,99,104,101,99,107,32,120,35,32,61,61,32]++itoaS ((1+v%2:Nat):Int)++[59,32,125]⟩]
 |4=>[⟨[108,111,99,107],[97],[59]⟩,⟨[108,111,99,107],[98],[59]⟩,⟨[99,104,97,110],[99],[32,49,59]⟩,⟨[112,114,111,99],[112],[32,123,32,97,99,113,117,105,114,101,32,98,35,59,32,97,99,113,117,105,114,101,32,97,35,59,32,114,101,108,101,97,115,101,32,97,35,59,32,114,101,108,101,97,115,101,32,98,35,59,32,115,101,110,100,32,99,35,32,49,59,32,125]⟩,⟨[116,101,115,116],[116],[32,123,32,103,111,32,112,35,59,32]++iO v++[32,114,101,99,118,32,99,35,32,36,120,59,32,125]⟩]
 |5=>[⟨[99,104,97,110],[99],[32,49,59]⟩,⟨[112,114,111,99],[112],[32,123,32,100,114,97,119,32,36,97,32]++itoaS ((2+v%2:Nat):Int)++[59,32,115,101,110,100,32,99,35,32,36,97,59,32,125]⟩,⟨[116,101,115,116],[116],[32,123,32,103,111,32,112,35,59,32,100,114,97,119,32,36,98,32,50,59,32,114,101,99,118,32,99,35,32,36,97,59,32,99,104,101,99,107,32]++mV v++[59,32,125]⟩]
 |6=>[⟨[116,101,115,116],[116],[32,123,32,100,114,97,119,32,36,97,32,51,59,32,100,114,97,119,32,36,98,32,50,59,32,99,104,101,99,107,32,36,97,32,42,32,36,98,32,60,32]++itoaS ((1+v%3:Nat):Int)++[59,32,125]⟩]
 |7=>[⟨[116,101,115,116],[116],[32,123,32,110,111,119,32,36,97,59,32,115,108,101,101,112,32,50,59,32,110,111,119,32,36,98,59,32,99,104,101,99,107,32,36,98,32,45,32,36,97,32,60,32]++itoaS ((3+v%3:Nat):Int)++[59,32,125]⟩]
 |8=>[⟨[102,105,108,101],[102],[59]⟩,⟨[116,101,115,116],[116],[32,123,32,119,114,105,116,101,32,102,35,32,55,59]++iP v++[32,114,101,97,100,32,102,35,32,36,97,59,32,99,104,101,99,107,32,36,97,32,61,61,32,55,59,32,125]⟩]
 |9=>[⟨[116,101,115,116],[116],mW v⟩]
 |10=>[⟨[118,97,114],[120],[32,61,32,48,59]⟩,⟨[116,101,115,116],[116],[32,123,32,119,104,105,108,101,32,36,105,32,60,32]++itoaS ((1+v%3:Nat):Int)++[32,123,32,120,35,32,61,32,120,35,32,43,32,49,59,32,36,105,32,61,32,36,105,32,43,32,49,59,32,125,32,99,104,101,99,107,32,120,35,32,61,61,32,50,59,32,125]⟩]
 |11=>[⟨[116,101,115,116],[116],[32,123,32,105,102,32,107,105,110,100,32,61,61,32]++itoaS ((v%3:Nat):Int)++[32,123,32,100,114,97,119,32,36,97,32,50,59,32,99,104,101,99,107,32,36,97,32,61,61,32,48,59,32,125,32,125]⟩]
 |12=>[⟨[114,101,99],[103],[32,123,32,97,32,61,32,49,59,32,98,32,61,32,50,59,32,125]⟩,⟨[112,114,111,99],[104],[32,123,32,103,35,46,97,32,61,32,103,35,46,98,32,43,32,49,59,32,125]⟩,⟨[116,101,115,116],[116],[32,123,32,99,97,108,108,32,104,35,59,32,99,97,108,108,32,104,35,59,32,99,104,101,99,107,32,103,35,46,97,32,61,61,32]++itoaS ((2+v%3:Nat):Int)++[59,32,125]⟩]
 |_=>[⟨[116,101,115,116],[116],[32,123,32,100,114,97,119,32,36,97,32,50,59,32,105,102,32,36,97,32,123,32,97,108,108,111,99,32,53,59,32,115,108,101,101,112,32,50,59,32,110,111,119,32,36,98,59,32,125,32,101,108,115,101,32,123,32,97,108,108,111,99,32]++itoaS ((1+v%9:Nat):Int)++[59,32,125,32,99,104,101,99,107,32]++mX v++[59,32,125]⟩]
def gG(k i v:Nat):List Df:=SU i (cS v k)
def fV:Df:=⟨[115,104,97,114,101,100],[118,97,114,32,115,104,97,114,101,100,32,61,32,48,59]⟩
def SV(l:List Int)(st:List Df×Bool)(i:Nat):List Df×Bool:=
 let n:=(eA l (1+i) 4096).toNat
 let out:=st.1++gG (n%14) i (n / 14)
 if n%14=9/\st.2=false then(out++[fV],true)else(out,st.2)
def zE(l:List Int):Nat:=1+(eA l 0 3).toNat
def mO(l:List Int)(k:Nat):List Df×Bool:=(A4 k).foldl (SV l) ([],false)
def Ap(l:List Int):List Df:=mU (mO l (zE l)).1 (eA l 4 64)
section
attribute[local simp] aR bJ bF aO aL aX aP
attribute[local simp] kH.cond Nd.d_eq nd_t nd_dr nd_td ndsD aQ bL bN
theorem Hp(s:bC)(i:Nat):(lQ s i).length=s.length:=by simp[lQ]
theorem NL(s:bC)(i:Nat)(e:i<=9)(f:s.length<=1000000000):Ok prog 274 [.str s,aI i] ⟨.d (.str (lQ s i)),true⟩:=by
 refine bT func274 rfl ntmps274 results274 λh X g=>?_;apply aD;simp;have a:∀{b:Op} {d:Option Nat} {t:TypeId} {p:String} {c:Array Edge},nJ ⟨d,b,t,p,c,none⟩ b d:=⟨rfl,rfl,rfl⟩;refine Rl hT iY iY iY iY (λw=>cQ (w:=w) hT (t:=5) rfl) rfl rfl rfl a a a a a a a a a a a a a a a a a a a a a a a a a a (s:=s) (i:=i) bB bB e f ?_;simp
theorem aAy{l:List R3}{y:DV}(h:y∈l.map R3.d):(aU y).length=3:=by obtain⟨u,_,rfl⟩:=B4.1 h;rfl
theorem aAz{l:List R3}:(∀y∈D0 R3.d l,(aU y).length=3)↔True:=iff_true_intro λ_ h=>aAy h
theorem aAA{u:R3}:(aU u.d).length=3:=rfl
attribute[local simp] aAz aAA R3.d
theorem IF(i:Nat)(r:List R3):(SU i r).length=r.length:=by simp[SU]
theorem aAB(i:Nat)(r:List R3)(l:i<=9)(s:r.length<=1000)(n:∀x∈r,x.w.length<=1000/\x.l.length<=1000/\x.t.length<=1000000):Ok prog 219 [aI i,.sl (r.map R3.d)] ⟨.own 2 ((SU i r).map Df.d),true⟩:=by
 refine bT func219 rfl ntmps219 results219 λu X h=>?_;apply aD;simp;apply aD;simp;apply eP;simp;apply aW;refine aZ (ι:=Nat) (λk=>bA [(0,.d (aI (i:Nat))),(1,.d (.sl (r.map R3.d))),(5,.ow 5 0 k),(6,.d (aI (k:Nat)))]) (λk=>aK [(5,.row false 2 (((SU i r).take k).map Df.d))]) (λk=>k<=r.length) (λk=>r.length-k) 0 (aA h [0,1,5,6] [(5,5)]) (A7 _) λk m=>?_;apply aF;apply bE;simp;refine⟨λj=>?_,λj=>?_⟩
 .apply aG;simp;apply eG;have a:k<r.length:=aE;obtain⟨x,g⟩:∃x,r[k]=x:=⟨_,rfl⟩;obtain⟨o,b,t⟩:=n x (g▸E0 a);have q:=NL x.t i l aE;have p:=WS x.w x.l (i:Int) (lQ x.t i) aE aE (by have:=cH (i:Int);omega) o b (by rw[Hp];omega);have d:(SU i r).take (k+1)=(SU i r).take k++[ST x.w x.l (i:Int) (lQ x.t i)]:=by
   rw[C7 (by rw[IF];exact a)];simp[SU,g]
  have c:A9 (k+1) (D0 Df.d (SU i r))=A9 k (D0 Df.d (SU i r))++[(ST x.w x.l (i:Int) (lQ x.t i)).d]:=by rw[<-D9,d,B2,D9];rfl
  refine fF.rd [[31,32,33],[31],[31],[31],[31],[31],[31],[31],[31],[31],[31],[31]] [[],[],[],[],[],[],[],[],[],[],[],[],[],[],[],[],[],[],[31],[32],[33],[5,34]] (λ|31=>some<| .plain ⟨.d (.str (lQ x.t i)),true⟩|32=>some<| .plain ⟨.d (ST x.w x.l (i:Int) (lQ x.t i)).d,false⟩|_=>none) ?_;simp[a,g];refine⟨⟨⟨by simpa using q,by simpa using p⟩,aE⟩,?_⟩;apply aJ;simp;refine⟨aE,?_⟩;refine On.mk (k+1) (aA h [0,1,5,6] [(34,5)] (hH:=by simp[c,G8,Df.d])) ?_ ?_
  .omega
  .omega
 .apply bP;simp;apply aD;simp;apply aH;have e:k=r.length:=aE;have f:A9 r.length (D0 Df.d (SU i r))=D0 Df.d (SU i r):=A0 (by rw[A8,IF];exact A6 _);simp[e,f,IF]
end
section
attribute[local simp] aR bJ bF aO aL aX aP
attribute[local simp] kH.cond Nd.d_eq nd_t nd_dr nd_td ndsD aQ bL bN aAz aAA R3.d
theorem dI{L:List bC}{k b:Nat}(h:∀w∈L,w.length<=b):(L.getD k []).length<=b:=by
 rw[A1];cases e:L[k]? with
 |none=>exact A7 _
 |some w=>exact h w (B9 e)
theorem xE{L:List bC}{k:Nat}(h:k<L.length):(L.map DV.str)[k]?.getD default=.str (L.getD k []):=by
 rw[D6,A3 h];simp[A1,h]
theorem Qj:∀w∈WT,w.length<=60:=bK
theorem Hq:∀w∈Fs,w.length<=60:=bK
theorem Qk:∀w∈WU,w.length<=60:=bK
theorem KZ:∀w∈KW,w.length<=60:=bK
theorem Hr:∀w∈Ft,w.length<=60:=bK
theorem La:∀w∈KX,w.length<=60:=bK
theorem Lb:∀w∈KY,w.length<=60:=bK
theorem xF(v k:Nat):(cS v k).length<=6/\∀x∈cS v k,x.w.length<=1000/\x.l.length<=1000/\x.t.length<=1000:=by
 have a:=cH ((v%2:Nat):Int);have b:=cH ((1+v%2:Nat):Int);have c:=cH ((2+v%2:Nat):Int);have d:=cH ((v%3:Nat):Int);have e:=cH ((1+v%3:Nat):Int);have f:=cH ((2+v%3:Nat):Int);have g:=cH ((3+v%3:Nat):Int);have h:=cH ((1+v%9:Nat):Int);have i:(uJ v).length<=60:=dI Qj;have j:(iO v).length<=60:=dI Hq;have l:(uV v).length<=60:=dI Qk;have m:(mV v).length<=60:=dI KZ;have n:(iP v).length<=60:=dI Hr;have o:(mW v).length<=60:=dI La;have p:(mX v).length<=60:=dI Lb;unfold cS;split<;>(simp only[List.forall_mem_cons,B0,C1,E3,G0,false_imp_iff,implies_true,and_true];(repeat' with_reducible apply And.intro)<;>omega)
theorem mP(k i v:Nat)(a:i<=9):Ok prog 219 [aI i,.sl ((cS v k).map R3.d)] ⟨.own 2 ((gG k i v).map Df.d),true⟩:=
 aAB i (cS v k) a (by have:=(xF v k).1;omega) λx b=>by have:=(xF v k).2 x b;omega
theorem Lc(k i v:Nat)(hk:k<6)(E:i<=9)(hv:v<=1000000):Ok prog 218 [aI k,aI i,aI v] ⟨.own 2 ((gG k i v).map Df.d),true⟩:=by
 refine bT func218 rfl ntmps218 results218 λw0 X hp=>?_;obtain⟨e,q2⟩:∃m:Nat,v%2=m:=⟨_,rfl⟩;obtain⟨m3,q3⟩:∃m:Nat,v%3=m:=⟨_,rfl⟩;obtain⟨m9,D⟩:∃m:Nat,v%9=m:=⟨_,rfl⟩;obtain⟨S,I⟩:∃m:Nat,v / 2%4=m:=⟨_,rfl⟩;obtain⟨H,F⟩:∃m:Nat,v / 2%2=m:=⟨_,rfl⟩;obtain⟨n9,G⟩:∃m:Nat,v / 9%2=m:=⟨_,rfl⟩;have w:(v:Int).tmod 2=(e:Int):=by rw[<-q2];rfl
 have y:(v:Int).tmod 3=(m3:Int):=by rw[<-q3];rfl
 have A:(v:Int).tmod 9=(m9:Int):=by rw[<-D];rfl
 have z:((v:Int) / 2).tmod 4=(S:Int):=by rw[<-I];rfl
 have s:((v:Int) / 2).tmod 2=(H:Int):=by rw[<-F];rfl
 have t:((v:Int) / 9).tmod 2=(n9:Int):=by rw[<-G];rfl
 have b2:(v:Int) / 2<=v:=aE;have b9:(v:Int) / 9<=v:=aE;apply aD;simp;apply aF;obtain⟨K,j⟩:∃x,uJ v=x:=⟨_,rfl⟩;have V:K.length<=60:=by rw[<-j];exact dI Qj
 have o:=xE (L:=WT) (k:=S) (by show _<4;omega);rw[show WT.getD S []=K by rw[<-j];simp only[uJ,q2,I,F,G]]at o;simp[WT]at o;apply aJ;simp[w,y,A,z,s,t,o];refine⟨by(repeat' with_reducible apply And.intro)<;>first|omega|rfl,?_⟩;apply aF;obtain⟨r,d⟩:∃x,iO v=x:=⟨_,rfl⟩;have M:r.length<=60:=by rw[<-d];exact dI Hq
 have c:=xE (L:=Fs) (k:=e) (by show _<2;omega);rw[show Fs.getD e []=r by rw[<-d];simp only[iO,q2,I,F,G]]at c;simp[Fs]at c;apply aJ;simp[w,y,A,z,s,t,c];refine⟨by(repeat' with_reducible apply And.intro)<;>first|omega|rfl,?_⟩;apply aF;obtain⟨J,q⟩:∃x,uV v=x:=⟨_,rfl⟩;have U:J.length<=60:=by rw[<-q];exact dI Qk
 have n:=xE (L:=WU) (k:=H) (by show _<2;omega);rw[show WU.getD H []=J by rw[<-q];simp only[uV,q2,I,F,G]]at n;simp[WU]at n;apply aJ;simp[w,y,A,z,s,t,n];refine⟨by(repeat' with_reducible apply And.intro)<;>first|omega|rfl,?_⟩;apply eP;simp;apply aW;apply bE;simp;refine⟨λW=>?_,λW=>?_⟩
 .have p:k=0:=aE;subst p;apply aF;obtain⟨P,f⟩:∃P,gG 0 i v=P:=⟨_,rfl⟩;have b:=mP 0 i v E;rw[f]at b;have l:=tJ ((e:Nat):Int) aE aE;have B:=cH ((e:Nat):Int);obtain⟨u,a⟩:∃x,itoaS ((e:Nat):Int)=x:=⟨_,rfl⟩;rw[a]at l B;simp only[cS,q2,q3,D,j,a]at b;simp at b l;refine bG (λ|33=>some<| .plain ⟨.d (.str u),true⟩|44=>some<| .plain ⟨.own 2 (P.map Df.d),true⟩|_=>none) ?_;simp[w,y,A,z,s,t];refine⟨by(repeat' with_reducible apply And.intro)<;>first|omega|with_reducible assumption|rfl|simpa using b,?_⟩;apply aH;simp[f]
 .apply bE;simp;refine⟨λY=>?_,λY=>?_⟩
  .have p:k=1:=aE;subst p;apply aF;obtain⟨P,f⟩:∃P,gG 1 i v=P:=⟨_,rfl⟩;have b:=mP 1 i v E;rw[f]at b;have l:=tJ ((e:Nat):Int) aE aE;have B:=cH ((e:Nat):Int);obtain⟨u,a⟩:∃x,itoaS ((e:Nat):Int)=x:=⟨_,rfl⟩;rw[a]at l B;simp only[cS,q2,q3,D,j,a]at b;simp at b l;refine bG (λ|50=>some<| .plain ⟨.d (.str u),true⟩|62=>some<| .plain ⟨.own 2 (P.map Df.d),true⟩|_=>none) ?_;simp[w,y,A,z,s,t];refine⟨by(repeat' with_reducible apply And.intro)<;>first|omega|with_reducible assumption|rfl|simpa using b,?_⟩;apply aH;simp[f]
  .apply bE;simp;refine⟨λZ=>?_,λZ=>?_⟩
   .have p:k=2:=aE;subst p;apply aF;obtain⟨P,f⟩:∃P,gG 2 i v=P:=⟨_,rfl⟩;have b:=mP 2 i v E;rw[f]at b;have l:=tJ ((1+e:Nat):Int) aE aE;have B:=cH ((1+e:Nat):Int);obtain⟨u,a⟩:∃x,itoaS ((1+e:Nat):Int)=x:=⟨_,rfl⟩;rw[a]at l B;simp only[cS,q2,q3,D,q,a]at b;simp at b l;refine bG (λ|69=>some<| .plain ⟨.d (.str u),true⟩|79=>some<| .plain ⟨.own 2 (P.map Df.d),true⟩|_=>none) ?_;simp[w,y,A,z,s,t];refine⟨by(repeat' with_reducible apply And.intro)<;>first|omega|with_reducible assumption|rfl|simpa using b,?_⟩;apply aH;simp[f]
   .apply bE;simp;refine⟨λN=>?_,λN=>?_⟩
    .have p:k=3:=aE;subst p;apply aF;obtain⟨P,f⟩:∃P,gG 3 i v=P:=⟨_,rfl⟩;have b:=mP 3 i v E;rw[f]at b;have l:=tJ ((1+e:Nat):Int) aE aE;have B:=cH ((1+e:Nat):Int);obtain⟨u,a⟩:∃x,itoaS ((1+e:Nat):Int)=x:=⟨_,rfl⟩;rw[a]at l B;simp only[cS,q2,q3,D,a]at b;simp at b l;refine bG (λ|91=>some<| .plain ⟨.d (.str u),true⟩|96=>some<| .plain ⟨.own 2 (P.map Df.d),true⟩|_=>none) ?_;simp[w,y,A,z,s,t];refine⟨by(repeat' with_reducible apply And.intro)<;>first|omega|with_reducible assumption|rfl|simpa using b,?_⟩;apply aH;simp[f]
    .apply bE;simp;refine⟨λO=>?_,λO=>?_⟩
     .have p:k=4:=aE;subst p;apply aF;obtain⟨P,f⟩:∃P,gG 4 i v=P:=⟨_,rfl⟩;have b:=mP 4 i v E;rw[f]at b;simp only[cS,q2,q3,D,d]at b;simp at b;refine bG (og 109 (.plain ⟨.own 2 (P.map Df.d),true⟩)) ?_;simp[w,y,A,z,s,t];refine⟨by(repeat' with_reducible apply And.intro)<;>first|omega|with_reducible assumption|rfl|simpa using b,?_⟩;apply aH;simp[f]
     .apply aG;simp;apply aF;have p:k=5:=aE;subst p;obtain⟨P,f⟩:∃P,gG 5 i v=P:=⟨_,rfl⟩;have b:=mP 5 i v E;rw[f]at b;obtain⟨C,h⟩:∃x,mV v=x:=⟨_,rfl⟩;have Q:C.length<=60:=by rw[<-h];exact dI KZ
      have g:=xE (L:=KW) (k:=H) (by show _<2;omega);rw[show KW.getD H []=C by rw[<-h];simp only[mV,q2,I,F,G]]at g;simp[KW]at g;have l:=tJ ((2+e:Nat):Int) aE aE;have B:=cH ((2+e:Nat):Int);obtain⟨u,a⟩:∃x,itoaS ((2+e:Nat):Int)=x:=⟨_,rfl⟩;rw[a]at l B;simp only[cS,q2,q3,D,h,a]at b;simp at b l;refine fF.rd [[115,119,128],[115,119],[119],[119],[119],[119],[119],[119],[119],[115],[115,119],[115,119],[115,119],[115],[115],[115],[115],[115]] [[],[],[],[],[],[115],[],[],[],[119],[],[],[],[],[],[],[],[],[128],[129]] (λ|115=>some<| .plain ⟨.d (.str u),true⟩|129=>some<| .plain ⟨.own 2 (P.map Df.d),true⟩|_=>none) ?_;simp[w,y,A,z,s,t,g];refine⟨by(repeat' with_reducible apply And.intro)<;>first|omega|with_reducible assumption|rfl|simpa using b,?_⟩;apply aH;simp[f]
theorem Ld(k i v:Nat)(hk:k<14)(t:i<=9)(hv:v<=1000000):Ok prog 147 [aI k,aI i,aI v] ⟨.own 2 ((gG k i v).map Df.d),true⟩:=by
 refine bT func147 rfl ntmps147 results147 λw0 X F=>?_;obtain⟨G,q2⟩:∃m:Nat,v%2=m:=⟨_,rfl⟩;obtain⟨h,q3⟩:∃m:Nat,v%3=m:=⟨_,rfl⟩;obtain⟨K,u⟩:∃m:Nat,v%9=m:=⟨_,rfl⟩;obtain⟨m4,M⟩:∃m:Nat,v / 2%4=m:=⟨_,rfl⟩;obtain⟨n2,H⟩:∃m:Nat,v / 2%2=m:=⟨_,rfl⟩;obtain⟨Z,I⟩:∃m:Nat,v / 9%2=m:=⟨_,rfl⟩;have z:(v:Int).tmod 2=(G:Int):=by rw[<-q2];rfl
 have A:(v:Int).tmod 3=(h:Int):=by rw[<-q3];rfl
 have C:(v:Int).tmod 9=(K:Int):=by rw[<-u];rfl
 have B:((v:Int) / 2).tmod 4=(m4:Int):=by rw[<-M];rfl
 have w:((v:Int) / 2).tmod 2=(n2:Int):=by rw[<-H];rfl
 have y:((v:Int) / 9).tmod 2=(Z:Int):=by rw[<-I];rfl
 have b2:(v:Int) / 2<=v:=aE;have b9:(v:Int) / 9<=v:=aE;apply aD;simp;apply eP;simp;apply aW;refine bH (ι:=Unit) (λc=>bA [(0,.d (aI (k:Nat))),(1,.d (aI (i:Nat))),(2,.d (aI (v:Nat))),(7,.d (aI (k:Nat))),(8,.d (.bool (decide (k<6))))]) (λc=>aK []) (λc=>True) ?_ λc a0=>?_
 .apply bE;simp;refine⟨λh2=>?_,λh2=>?_⟩
  .apply aG;simp;exact(aA F [0,1,2,7,8] [] (by simp[h2]))
  .apply bE;simp;refine⟨λh3=>?_,λh3=>?_⟩
   .apply aG;simp;exact(aA F [0,1,2,7,8] [] (by simp[show k<6 by omega,h3]))
   .apply bE;simp;refine⟨λh4=>?_,λh4=>?_⟩
    .apply aG;simp;exact(aA F [0,1,2,7,8] [] (by simp[show k<6 by omega,h4]))
    .apply bE;simp;refine⟨λh5=>?_,λh5=>?_⟩
     .apply aG;simp;exact(aA F [0,1,2,7,8] [] (by simp[show k<6 by omega,h5]))
     .apply bE;simp;refine⟨λh6=>?_,λh6=>?_⟩
      .apply aG;simp;exact(aA F [0,1,2,7,8] [] (by simp[show k<6 by omega,h6]))
      .apply aJ;simp;exact(aA F [0,1,2,7,8] [] (by have e6:(k<6)=((k:Int)=5):=propext aE;simp[e6]))
 .apply aM;simp;refine⟨λh8=>?_,λh8=>?_⟩
  .apply aF;have k6:k<6:=h8;obtain⟨P,d⟩:∃P,gG k i v=P:=⟨_,rfl⟩;have kt:=Lc k i v k6 t hv;rw[d]at kt;refine bG (og 18 (.plain ⟨.own 2 (P.map Df.d),true⟩)) ?_;simp;refine⟨kt,?_⟩;apply aH;simp[d]
  .apply bE;simp;refine⟨λh9=>?_,λh9=>?_⟩
   .have n:k=6:=aE;subst n;apply aF;obtain⟨P,d⟩:∃P,gG 6 i v=P:=⟨_,rfl⟩;have a:=mP 6 i v t;rw[d]at a;have g:=tJ ((1+h:Nat):Int) aE aE;have s:=cH ((1+h:Nat):Int);obtain⟨q,b⟩:∃x,itoaS ((1+h:Nat):Int)=x:=⟨_,rfl⟩;rw[b]at g s;simp only[cS,q2,q3,u,b]at a;simp at a g;refine bG (λ|25=>some<| .plain ⟨.d (.str q),true⟩|30=>some<| .plain ⟨.own 2 (P.map Df.d),true⟩|_=>none) ?_;simp[z,A,C,B,w,y];refine⟨by(repeat' with_reducible apply And.intro)<;>first|omega|with_reducible assumption|rfl|simpa using a,?_⟩;apply aH;simp[d]
   .apply bE;simp;refine⟨λN=>?_,λN=>?_⟩
    .have n:k=7:=aE;subst n;apply aF;obtain⟨P,d⟩:∃P,gG 7 i v=P:=⟨_,rfl⟩;have a:=mP 7 i v t;rw[d]at a;have g:=tJ ((3+h:Nat):Int) aE aE;have s:=cH ((3+h:Nat):Int);obtain⟨q,b⟩:∃x,itoaS ((3+h:Nat):Int)=x:=⟨_,rfl⟩;rw[b]at g s;simp only[cS,q2,q3,u,b]at a;simp at a g;refine bG (λ|37=>some<| .plain ⟨.d (.str q),true⟩|42=>some<| .plain ⟨.own 2 (P.map Df.d),true⟩|_=>none) ?_;simp[z,A,C,B,w,y];refine⟨by(repeat' with_reducible apply And.intro)<;>first|omega|with_reducible assumption|rfl|simpa using a,?_⟩;apply aH;simp[d]
    .apply bE;simp;refine⟨λO=>?_,λO=>?_⟩
     .have n:k=8:=aE;subst n;apply aF;obtain⟨P,d⟩:∃P,gG 8 i v=P:=⟨_,rfl⟩;have a:=mP 8 i v t;rw[d]at a;obtain⟨r,f⟩:∃x,iP v=x:=⟨_,rfl⟩;have J:r.length<=60:=by rw[<-f];exact dI Hr
      have e:=xE (L:=Ft) (k:=G) (by show _<2;omega);rw[show Ft.getD G []=r by rw[<-f];simp only[iP,q2,M,H,I]]at e;simp[Ft]at e;simp only[cS,q2,q3,u,f]at a;simp at a;refine bG (og 56 (.plain ⟨.own 2 (P.map Df.d),true⟩)) ?_;simp[z,A,C,B,w,y,e];refine⟨by(repeat' with_reducible apply And.intro)<;>first|omega|with_reducible assumption|rfl|simpa using a,?_⟩;apply aH;simp[d]
     .apply bE;simp;refine⟨λQ=>?_,λQ=>?_⟩
      .have n:k=9:=aE;subst n;apply aF;obtain⟨P,d⟩:∃P,gG 9 i v=P:=⟨_,rfl⟩;have a:=mP 9 i v t;rw[d]at a;obtain⟨E,p⟩:∃x,mW v=x:=⟨_,rfl⟩;have Y:E.length<=60:=by rw[<-p];exact dI La
       have l:=xE (L:=KX) (k:=G) (by show _<2;omega);rw[show KX.getD G []=E by rw[<-p];simp only[mW,q2,M,H,I]]at l;simp[KX]at l;simp only[cS,q2,q3,u,p]at a;simp at a;refine bG (og 67 (.plain ⟨.own 2 (P.map Df.d),true⟩)) ?_;simp[z,A,C,B,w,y,l];refine⟨by(repeat' with_reducible apply And.intro)<;>first|omega|with_reducible assumption|rfl|simpa using a,?_⟩;apply aH;simp[d]
      .apply bE;simp;refine⟨λS=>?_,λS=>?_⟩
       .have n:k=10:=aE;subst n;apply aF;obtain⟨P,d⟩:∃P,gG 10 i v=P:=⟨_,rfl⟩;have a:=mP 10 i v t;rw[d]at a;have g:=tJ ((1+h:Nat):Int) aE aE;have s:=cH ((1+h:Nat):Int);obtain⟨q,b⟩:∃x,itoaS ((1+h:Nat):Int)=x:=⟨_,rfl⟩;rw[b]at g s;simp only[cS,q2,q3,u,b]at a;simp at a g;refine bG (λ|75=>some<| .plain ⟨.d (.str q),true⟩|80=>some<| .plain ⟨.own 2 (P.map Df.d),true⟩|_=>none) ?_;simp[z,A,C,B,w,y];refine⟨by(repeat' with_reducible apply And.intro)<;>first|omega|with_reducible assumption|rfl|simpa using a,?_⟩;apply aH;simp[d]
       .apply bE;simp;refine⟨λU=>?_,λU=>?_⟩
        .have n:k=11:=aE;subst n;apply aF;obtain⟨P,d⟩:∃P,gG 11 i v=P:=⟨_,rfl⟩;have a:=mP 11 i v t;rw[d]at a;have g:=tJ ((h:Nat):Int) aE aE;have s:=cH ((h:Nat):Int);obtain⟨q,b⟩:∃x,itoaS ((h:Nat):Int)=x:=⟨_,rfl⟩;rw[b]at g s;simp only[cS,q2,q3,u,b]at a;simp at a g;refine bG (λ|86=>some<| .plain ⟨.d (.str q),true⟩|91=>some<| .plain ⟨.own 2 (P.map Df.d),true⟩|_=>none) ?_;simp[z,A,C,B,w,y];refine⟨by(repeat' with_reducible apply And.intro)<;>first|omega|with_reducible assumption|rfl|simpa using a,?_⟩;apply aH;simp[d]
        .apply bE;simp;refine⟨λV=>?_,λV=>?_⟩
         .have n:k=12:=aE;subst n;apply aF;obtain⟨P,d⟩:∃P,gG 12 i v=P:=⟨_,rfl⟩;have a:=mP 12 i v t;rw[d]at a;have g:=tJ ((2+h:Nat):Int) aE aE;have s:=cH ((2+h:Nat):Int);obtain⟨q,b⟩:∃x,itoaS ((2+h:Nat):Int)=x:=⟨_,rfl⟩;rw[b]at g s;simp only[cS,q2,q3,u,b]at a;simp at a g;refine bG (λ|100=>some<| .plain ⟨.d (.str q),true⟩|105=>some<| .plain ⟨.own 2 (P.map Df.d),true⟩|_=>none) ?_;simp[z,A,C,B,w,y];refine⟨by(repeat' with_reducible apply And.intro)<;>first|omega|with_reducible assumption|rfl|simpa using a,?_⟩;apply aH;simp[d]
         .apply aG;simp;apply aF;have n:k=13:=aE;subst n;obtain⟨P,d⟩:∃P,gG 13 i v=P:=⟨_,rfl⟩;have a:=mP 13 i v t;rw[d]at a;obtain⟨D,o⟩:∃x,mX v=x:=⟨_,rfl⟩;have W:D.length<=60:=by rw[<-o];exact dI Lb
          have j:=xE (L:=KY) (k:=Z) (by show _<2;omega);rw[show KY.getD Z []=D by rw[<-o];simp only[mX,q2,M,H,I]]at j;simp[KY]at j;have g:=tJ ((1+K:Nat):Int) aE aE;have s:=cH ((1+K:Nat):Int);obtain⟨q,b⟩:∃x,itoaS ((1+K:Nat):Int)=x:=⟨_,rfl⟩;rw[b]at g s;simp only[cS,q2,q3,u,o,b]at a;simp at a g;refine fF.rd [[110,113,122],[113],[113],[113],[113],[113],[113],[110],[110,113],[110,113],[110,113],[110],[110]] [[],[],[],[],[110],[],[],[113],[],[],[],[],[],[],[],[],[122],[123]] (λ|110=>some<| .plain ⟨.d (.str q),true⟩|123=>some<| .plain ⟨.own 2 (P.map Df.d),true⟩|_=>none) ?_;simp[z,A,C,B,w,y,j];refine⟨by(repeat' with_reducible apply And.intro)<;>first|omega|with_reducible assumption|rfl|simpa using a,?_⟩;apply aH;simp[d]
end
def Ql(ts:List (bC×Nd×Int×Int))(sh:Bool)(u:cY):Bool:=
 (sh&&decide (u.name=fV.name)&&decide (u.kind=0)&&decide (u.bk≠14))||
   ts.any λp=>decide (p.1=u.name)&&decide (p.2.1.kind=u.kind)&&(decide (u.kind≠1)||decide (u.field∈cR p.2.1))&&(decide (u.bk≠14)||(bX p.2.1).all λv=>decide (v.bk≠14))
def WV(c:UInt8)(sh:Bool)(ts:List (bC×Nd×Int×Int)):Bool:=
 decide (ts.length<=6)&&decide ((ts.map Prod.fst).Nodup)&&ts.all (λp=>decide (p.1.getLast?=some c)&&decide (p.2.2.2=0)&&decide (p.2.1.text=p.1)&&decide ((cR p.2.1).Nodup)&&(bX p.2.1).all (Ql ts sh))
def iQ(c:UInt8)(sh:Bool)(l:List Df):Bool:=WV c sh (l.map λd=>(d.name,parseS d.text))
structure NM(c:UInt8)(sh:Bool)(l:List Df):Prop where
 len:l.length<=6
 names:(l.map Df.name).Nodup
 last:∀d∈l,d.name.getLast?=some c
 fine:∀d∈l,FineD d
 uses:∀d∈l,∀u∈bX (treeD d),(sh=true/\u.name=fV.name/\u.kind=0/\u.bk≠14)\/
  ∃e∈l,e.name=u.name/\(treeD e).kind=u.kind/\(u.kind=1->u.field∈cR (treeD e))/\(u.bk=14->∀v∈bX (treeD e),v.bk≠14)
theorem WW{c:UInt8}{n:Bool}{l:List Df}(h:iQ c n l=true):NM c n l:=by
 unfold iQ WV at h;simp only[G3,decide_eq_true_eq,A8,C6,C9,B4,forall_exists_index,and_imp,forall_apply_eq_imp_iff₂]at h;obtain⟨⟨o,q⟩,j⟩:=h;refine⟨o,q,λd i=>(j d i).1.1.1.1,λd i=>⟨(j d i).1.1.1.2,(j d i).1.1.2,(j d i).1.2⟩,λd i u s=>?_⟩;have g:=(j d i).2 u s;unfold Ql at g;simp only[Bool.or_eq_true,G3,decide_eq_true_eq,List.any_eq_true,B4,C9]at g;rcases g with g|⟨p,⟨e,r,rfl⟩,⟨⟨⟨a,b⟩,c⟩,f⟩⟩
 .exact .inl ⟨g.1.1.1,g.1.1.2,g.1.2,g.2⟩
 .refine .inr ⟨e,r,a,b,λm=>c.resolve_left λk=>k m,λm v t=>?_⟩;exact(f.resolve_left λk=>k m) v t
set_option maxRecDepth 100000 in
theorem YQ:((A4 3).all λi=>(A4 8).all λv=>iQ (A2 (48+i)) false (gG 0 i v))=true:=iY
set_option maxRecDepth 100000 in
theorem YR:((A4 3).all λi=>(A4 8).all λv=>iQ (A2 (48+i)) false (gG 1 i v))=true:=iY
set_option maxRecDepth 100000 in
theorem YS:((A4 3).all λi=>(A4 4).all λv=>iQ (A2 (48+i)) false (gG 2 i v))=true:=iY
set_option maxRecDepth 100000 in
theorem YT:((A4 3).all λi=>(A4 2).all λv=>iQ (A2 (48+i)) false (gG 3 i v))=true:=iY
set_option maxRecDepth 100000 in
theorem YU:((A4 3).all λi=>(A4 2).all λv=>iQ (A2 (48+i)) false (gG 4 i v))=true:=iY
set_option maxRecDepth 100000 in
theorem YV:((A4 3).all λi=>(A4 4).all λv=>iQ (A2 (48+i)) false (gG 5 i v))=true:=iY
set_option maxRecDepth 100000 in
theorem YW:((A4 3).all λi=>(A4 3).all λv=>iQ (A2 (48+i)) false (gG 6 i v))=true:=iY
set_option maxRecDepth 100000 in
theorem YX:((A4 3).all λi=>(A4 3).all λv=>iQ (A2 (48+i)) false (gG 7 i v))=true:=iY
set_option maxRecDepth 100000 in
theorem YY:((A4 3).all λi=>(A4 2).all λv=>iQ (A2 (48+i)) false (gG 8 i v))=true:=iY
set_option maxRecDepth 100000 in
theorem YZ:((A4 3).all λi=>(A4 2).all λv=>iQ (A2 (48+i)) true (gG 9 i v))=true:=iY
set_option maxRecDepth 100000 in
theorem WX:((A4 3).all λi=>(A4 3).all λv=>iQ (A2 (48+i)) false (gG 10 i v))=true:=iY
set_option maxRecDepth 100000 in
theorem WY:((A4 3).all λi=>(A4 3).all λv=>iQ (A2 (48+i)) false (gG 11 i v))=true:=iY
set_option maxRecDepth 100000 in
theorem WZ:((A4 3).all λi=>(A4 3).all λv=>iQ (A2 (48+i)) false (gG 12 i v))=true:=iY
set_option maxRecDepth 100000 in
theorem Xa:((A4 3).all λi=>(A4 18).all λv=>iQ (A2 (48+i)) false (gG 13 i v))=true:=iY
theorem NN(v:Nat):cS (v%8) 0=cS v 0:=by
 simp only[cS,uJ,iO,uV,mV,iP,mW,mX,show v%8%2=v%2 by omega,show v%8 / 2%4=v / 2%4 by omega]
theorem NO(v:Nat):cS (v%8) 1=cS v 1:=by
 simp only[cS,uJ,iO,uV,mV,iP,mW,mX,show v%8%2=v%2 by omega,show v%8 / 2%4=v / 2%4 by omega]
theorem NP(v:Nat):cS (v%4) 2=cS v 2:=by
 simp only[cS,uJ,iO,uV,mV,iP,mW,mX,show v%4%2=v%2 by omega,show v%4 / 2%2=v / 2%2 by omega]
theorem NQ(v:Nat):cS (v%2) 3=cS v 3:=by
 simp only[cS,uJ,iO,uV,mV,iP,mW,mX,show v%2%2=v%2 by omega]
theorem NR(v:Nat):cS (v%2) 4=cS v 4:=by
 simp only[cS,uJ,iO,uV,mV,iP,mW,mX,show v%2%2=v%2 by omega]
theorem NS(v:Nat):cS (v%4) 5=cS v 5:=by
 simp only[cS,uJ,iO,uV,mV,iP,mW,mX,show v%4%2=v%2 by omega,show v%4 / 2%2=v / 2%2 by omega]
theorem NT(v:Nat):cS (v%3) 6=cS v 6:=by
 simp only[cS,uJ,iO,uV,mV,iP,mW,mX,show v%3%3=v%3 by omega]
theorem NU(v:Nat):cS (v%3) 7=cS v 7:=by
 simp only[cS,uJ,iO,uV,mV,iP,mW,mX,show v%3%3=v%3 by omega]
theorem NV(v:Nat):cS (v%2) 8=cS v 8:=by
 simp only[cS,uJ,iO,uV,mV,iP,mW,mX,show v%2%2=v%2 by omega]
theorem NW(v:Nat):cS (v%2) 9=cS v 9:=by
 simp only[cS,uJ,iO,uV,mV,iP,mW,mX,show v%2%2=v%2 by omega]
theorem Le(v:Nat):cS (v%3) 10=cS v 10:=by
 simp only[cS,uJ,iO,uV,mV,iP,mW,mX,show v%3%3=v%3 by omega]
theorem Lf(v:Nat):cS (v%3) 11=cS v 11:=by
 simp only[cS,uJ,iO,uV,mV,iP,mW,mX,show v%3%3=v%3 by omega]
theorem Lg(v:Nat):cS (v%3) 12=cS v 12:=by
 simp only[cS,uJ,iO,uV,mV,iP,mW,mX,show v%3%3=v%3 by omega]
theorem Lh(v:Nat):cS (v%18) 13=cS v 13:=by
 simp only[cS,uJ,iO,uV,mV,iP,mW,mX,show v%18%9=v%9 by omega,show v%18 / 9%2=v / 9%2 by omega]
theorem Li{k i v:Nat}(e:k<14)(d:i<3):NM (A2 (48+i)) (decide (k=9)) (gG k i v):=by
 refine WW ?_;have a:∀(m:Nat) (b:Bool),0<m->cS (v%m) k=cS v k->((A4 3).all λi=>(A4 m).all λv=>iQ (A2 (48+i)) b (gG k i v))=true->iQ (A2 (48+i)) b (gG k i v)=true:=by
  intro m b f c h;have:=C9.1 (C9.1 h i (D4.2 d)) (v%m) (D4.2 (C8 _ f));unfold gG at this|-;rw[c]at this;exact this
 match k,e with
 |0,_=>exact a 8 false bK (NN v) YQ
 |1,_=>exact a 8 false bK (NO v) YR
 |2,_=>exact a 4 false bK (NP v) YS
 |3,_=>exact a 2 false bK (NQ v) YT
 |4,_=>exact a 2 false bK (NR v) YU
 |5,_=>exact a 4 false bK (NS v) YV
 |6,_=>exact a 3 false bK (NT v) YW
 |7,_=>exact a 3 false bK (NU v) YX
 |8,_=>exact a 2 false bK (NV v) YY
 |9,_=>exact a 2 true bK (NW v) YZ
 |10,_=>exact a 3 false bK (Le v) WX
 |11,_=>exact a 3 false bK (Lf v) WY
 |12,_=>exact a 3 false bK (Lg v) WZ
 |13,_=>exact a 18 false bK (Lh v) Xa
structure aAC(k:Nat)(st:List Df×Bool):Prop where
 len:st.1.length<=6*k+st.2.toNat
 names:(st.1.map Df.name).Nodup
 last:∀d∈st.1,(d=fV/\st.2=true)\/∃j<k,d.name.getLast?=some (A2 (48+j))
 shared:st.2=true->fV∈st.1
 fine:∀d∈st.1,FineD d
 uses:∀d∈st.1,∀u∈bX (treeD d),∃e∈st.1,e.name=u.name/\(treeD e).kind=u.kind/\(u.kind=1->u.field∈cR (treeD e))/\(u.bk=14->∀v∈bX (treeD e),v.bk≠14)
theorem Lj:FineD fV:=by unfold FineD;decide
theorem Lk:bX (treeD fV)=[]:=bK
theorem CO:(treeD fV).kind=0:=bK
theorem CP:fV.name.getLast?=some 100:=bK
theorem SW{a b:Nat}(c:a<3)(d:b<3)(h:A2 (48+a)=A2 (48+b)):a=b:=by
 have:=congrArg H3 h;rw[D5,D5]at this;omega
theorem Qm{a:Nat}(c:a<3):(100:UInt8)≠A2 (48+a):=by
 intro h;have:=congrArg H3 h;rw[D5]at this;have b:(100:UInt8).toNat=100:=rfl;omega
theorem aAC.add{k:Nat}{g:List Df×Bool}{p:List Df}{G:Bool}(i:k<3)(h:aAC k g)(t:NM (A2 (48+k)) G p):
 aAC (k+1) (if G=true/\g.2=false then(g.1++p++[fV],true)else(g.1++p,g.2)):=by
 have F:((g.1++p).map Df.name).Nodup:=by
  rw[B2,F8];refine⟨h.names,t.names,?_⟩;intro a A b o e;subst e;obtain⟨d,c,rfl⟩:=B4.1 A;obtain⟨H,B,y⟩:=B4.1 o;have m:=t.last H B;rw[y]at m;rcases h.last d c with⟨rfl,_⟩|⟨j,E,w⟩
  .rw[CP]at m;injection m with m
   exact Qm i m
  .rw[w]at m;injection m with m
   have:=SW aE i m;omega
 have D:∀d∈g.1++p,FineD d:=λd c=>(B6.1 c).elim (h.fine d) (t.fine d);have C:∀d∈g.1++p,(d=fV/\g.2=true)\/∃j<k+1,d.name.getLast?=some (A2 (48+j)):=λd c=>by
  rcases B6.1 c with c|c
  .rcases h.last d c with l|⟨j,E,l⟩
   .exact .inl l
   .exact .inr ⟨j,aE,l⟩
  .exact .inr ⟨k,aE,t.last d c⟩
 have f:(g.1++p).length<=6*(k+1)+g.2.toNat:=by
  have:=h.len;have:=t.len;rw[B0];omega
 split
 .rename_i x;refine⟨?_,?_,λd c=>?_,λ_=>bB,λd c=>?_,λd c u v=>?_⟩
  .simp only[B0,C1,E3,Bool.toNat_true]at f|-;rw[x.2]at f;simp at f;omega
  .rw[B2,F8];refine⟨F,bB,?_⟩;intro a A b o e;simp at o;subst o;obtain⟨d,c,y⟩:=B4.1 A;rcases C d c with⟨_,n⟩|⟨j,E,w⟩
   .rw[x.2]at n;cases n
   .rw[y,e,CP]at w;injection w with w
    exact Qm aE w
  .rcases B6.1 c with c|c
   .rcases C d c with⟨l,_⟩|l
    .exact .inl ⟨l,rfl⟩
    .exact .inr l
   .simp at c;exact .inl ⟨c,rfl⟩
  .rcases B6.1 c with c|c
   .exact D d c
   .simp at c;subst c;exact Lj
  .have J:fV∈g.1++p++[fV]:=bB;rcases B6.1 c with c|c
   .rcases B6.1 c with c|c
    .obtain⟨e,s,r⟩:=h.uses d c u v;exact⟨e,B5 _ (B5 _ s),r⟩
    .rcases t.uses d c u v with⟨_,l,n,z⟩|⟨e,s,r⟩
     .exact⟨fV,J,l.symm,by rw[CO,n],(λi=>by rw[n]at i;cases i),λi=>absurd i z⟩
     .exact⟨e,B5 _ (E6 _ s),r⟩
   .simp at c;subst c;rw[Lk]at v;cases v
 .rename_i x;refine⟨f,F,C,λo=>B5 _ (h.shared o),D,λd c u v=>?_⟩;rcases B6.1 c with c|c
  .obtain⟨e,s,r⟩:=h.uses d c u v;exact⟨e,B5 _ s,r⟩
  .rcases t.uses d c u v with⟨I,l,n,z⟩|⟨e,s,r⟩
   .have o:g.2=true:=by
     cases q:g.2 with
     |true=>rfl
     |false=>exact absurd ⟨I,q⟩ x
    exact⟨fV,B5 _ (h.shared o),l.symm,by rw[CO,n],(λi=>by rw[n]at i;cases i),λi=>absurd i z⟩
   .exact⟨e,E6 _ s,r⟩
theorem Za(l:List Int)(a:List Df×Bool)(i:Nat):SV l a i=(if decide ((eA l (1+i) 4096).toNat%14=9)=true/\a.2=false then(a.1++gG ((eA l (1+i) 4096).toNat%14) i ((eA l (1+i) 4096).toNat / 14)++[fV],true)else(a.1++gG ((eA l (1+i) 4096).toNat%14) i ((eA l (1+i) 4096).toNat / 14),a.2)):=by
 unfold SV;simp only[decide_eq_true_eq]
theorem BZ(l:List Int)(k:Nat):mO l (k+1)=SV l (mO l k) k:=by
 unfold mO;rw[C3,List.foldl_append];rfl
theorem Fu(l:List Int):∀k,k<=3->aAC k (mO l k)
 |0,_=>⟨A7 _,.nil,by simp[mO],by simp[mO],by simp[mO],by simp[mO]⟩
 |k+1,h=>by
  rw[BZ,Za];exact(Fu l k aE).add aE (Li (C8 _ bK) aE)
theorem IG(l:List Int)(i m:Int)(a:0<m):0<=eA l i m/\eA l i m<m:=by
 unfold eA;split
 .exact⟨Int.le_refl _,a⟩
 .exact dO _ _ a
theorem IH(l:List Int):zE l<=3:=by
 have:=IG l 0 3 bK;unfold zE;omega
theorem Ll(l:List Int):(mO l (zE l)).1.length<=19:=by
 have h:=Fu l _ (IH l);have a:=IH l;have b:(mO l (zE l)).2.toNat<=1:=Bool.toNat_le _;have:=h.len;omega
theorem Xb{n:Nat}{b:Int}{i:Nat}(a:i<n):rD n b i<n:=by
 unfold rD;have c:(i+(bS b (n:Int)).toNat)%n<n:=C8 _ aE;simp only;split<;>omega
theorem Qn{x n:Nat}(h:x<2*n):x%n=if x<n then x else x-n:=by
 split
 .exact G4 ‹_›
 .rw[Nat.mod_eq_sub_mod aE,G4 aE]
theorem SX{n:Nat}{b:Int}{i j:Nat}(f:i<n)(g:j<n)(h:rD n b i=rD n b j):i=j:=by
 unfold rD at h;have l:=dO b (n:Int) aE;obtain⟨k,d⟩:∃k:Nat,(bS b (n:Int)).toNat=k:=⟨_,rfl⟩;have e:k<n:=aE;rw[d]at h;have a:=Qn (x:=i+k) (n:=n) aE;have c:=Qn (x:=j+k) (n:=n) aE;simp only at h;rw[a,c]at h;split at h<;>split at h<;>split at h<;>omega
theorem CQ{α:Type}[DecidableEq α]:∀{a b:List α},a.Nodup->a⊆b->b.length<=a.length->a.Perm b
 |[],b,_,_,hl=>by
  have:b=[]:=C2 (by simpa using hl);rw[this]
 |x::r,b,hn,hs,hl=>by
  have h:x∈b:=hs (F2 ..);have f:=List.perm_cons_erase h;refine(List.Perm.cons x (CQ (G6.1 hn).2 (λy g=>?_) ?_)).trans f.symm
  .have d:=hs (E7 _ g);have c:y≠x:=λe=>(G6.1 hn).1 (e▸g);exact(List.mem_erase_of_ne c).2 d
  .have:=f.length_eq;simp only[C1]at this hl;omega
theorem Xd:∀{n:Nat} {f:Nat->Nat},(∀i<n,f i<n)->(∀i<n,∀j<n,f i=f j->i=j)->((A4 n).map f).Perm (A4 n):=by
 intro n f g h;have c:((A4 n).map f).Nodup:=by
  refine List.pairwise_iff_getElem.2 λi j b d k=>?_;simp at b d|-;intro e;have:=h i b j d e;omega
 have a:(A4 n).map f⊆A4 n:=λx l=>by
  obtain⟨i,b,rfl⟩:=B4.1 l;exact D4.2 (g i (D4.1 b))
 exact CQ c a bB
theorem Ca(l:List Df)(b:Int):(mU l b).Perm l:=by
 have h:=Xd (n:=l.length) (f:=rD l.length b) (λi c=>Xb c) λi c j k e=>SX c k e;have a:=h.map λi=>l.getD i default;have d:mU l b=((A4 l.length).map (rD l.length b)).map λi=>l.getD i default:=by unfold mU;rw[C6];rfl
 have g:(A4 l.length).map (λi=>l.getD i default)=l:=by
  refine List.ext_getElem bB λi m a=>?_;simp[A1,a]
 rw[d];rw[g]at a;exact a
theorem Qo(l:List Int):(Ap l).length<=19:=by
 have:=(Ca (mO l (zE l)).1 (eA l 4 64)).length_eq;have:=Ll l;unfold Ap;omega
section
attribute[local simp] aR bJ bF aO aL aX aP
attribute[local simp] kH.cond Nd.d_eq nd_t nd_dr nd_td ndsD aQ
theorem Xe(T:List Tk)(l:List Int):spacedTo T l 0=[]:=rfl
attribute[local simp] Xe
def spB(out w:bC)(k:Int)(i:Nat):Bool:=
 decide (k<3)||(match out.getLast? with
  |none=>false
  |some c=>(firstIs letterB w||firstIs digitB w)&&decide (c≠32)&&decide (c≠10)&& !signB c)||(decide (0<i)&&(decide (w=[61])||decide (w=[61,61])))
theorem xG(T:List Tk)(l:List Int)(i:Nat):spacedTo T l (i+1)=(if spB (spacedTo T l i) (T.getD i default).text (eA l i 6) i=true then spacedTo T l i++sepsL.getD ((eA l i 6).tmod 3).toNat []else spacedTo T l i)++(T.getD i default).text:=rfl
theorem Xf{m:Int}(a:0<=m)(b:m<3):([DV.str [32],DV.str [10],DV.str [32,32,10,32]]:List DV)[m.toNat]?.getD default=.str (sepsL.getD m.toNat []):=by
 have:m=0\/m=1\/m=2:=aE;rcases this with rfl|rfl|rfl<;>rfl
theorem Qp{a w:bC}{k:Int}{i:Nat}{d:UInt8}(b:a[a.length-1]?.getD 0=d):spB a w k i=true↔((k<3\/(((0<a.length/\(firstIs letterB w=true\/firstIs digitB w=true))/\¬(d.toNat:Int)=32)/\¬(d.toNat:Int)=10)/\¬d∈signs)\/0<i/\(w=[61]\/w=[61,61])):=by
 unfold spB;rw[List.getLast?_eq_getElem?];cases e:a[a.length-1]? with
 |none=>
  have f:¬0<a.length:=λq=>by rw[A3 aE]at e;cases e
  simp[f]
 |some c=>
  rw[e]at b;have b:c=d:=b;subst b;have f:0<a.length:=by
   have:=(List.getElem?_eq_some_iff.1 e).1;omega
  have g:(c.toNat:Int)=32↔c=32:=by rw[<-G7];have:(32:UInt8).toNat=32:=rfl;omega
  have h:(c.toNat:Int)=10↔c=10:=by rw[<-G7];have:(10:UInt8).toNat=10:=rfl;omega
  simp[f,g,h,signB]
theorem uK(T:List Tk)(l:List Int)(b:Nat)(a:∀t∈T,t.text.length<=b):∀i,(spacedTo T l i).length<=i*(b+4)
 |0=>by simp[spacedTo]
 |i+1=>by
  have g:=uK T l b a i;have c:∀k:Nat,(sepsL.getD k []).length<=4:=λk=>by
   rw[A1];cases e:sepsL[k]? with
   |none=>simp
   |some w=>exact(by decide:∀w∈sepsL,w.length<=4) w (B9 e)
  have f:(T.getD i default).text.length<=b:=by
   rw[A1];cases e:T[i]? with
   |none=>exact A7 _
   |some w=>exact a w (B9 e)
  have d:=c ((eA l i 6).tmod 3).toNat;rw[Nat.succ_mul,xG,B0];cases spB (spacedTo T l i) (T.getD i default).text (eA l i 6) i
  .simp only[Bool.false_eq_true,if_false];omega
  .rw[if_pos rfl,B0];omega
theorem NX(s:bC)(l:List Int)(hs:s.length<=100000000)(hl:∀n∈l, -9223372036854775808<=n/\n<=9223372036854775807):Ok prog 40 [.str s,.sl (l.map aI)] ⟨.d (.str (spacedS s l)),true⟩:=by
 refine bT func40 rfl ntmps40 results40 λw0 X G=>?_;obtain⟨T,j⟩:∃T,(scanS s).1=T:=⟨_,rfl⟩;have E:∀t∈T,InT s t:=λt J=>JZ (j▸J);have a0:T.length<=s.length:=by rw[<-j];exact nR _ _ _
 have D:cF T:=by rw[<-j];exact nK _ _ _
 have q:∀t∈T,t.text.length<=17:=λt J=>Ih (D t J);apply aD;simp;apply aF;have r:=Ka s aE;rw[j]at r;refine bG (og 14 (.plain ⟨.tup [.d (.sl (T.map Tk.r)),.d (aI (scanS s).2)],true⟩)) ?_;simp[bM];refine⟨r,?_⟩;apply aD;simp;apply eP;simp;apply aW;refine aZ (ι:=Nat) (λi=>bA [(0,.d (.str s)),(1,.d (.sl (l.map aI))),(5,.d (.sl (T.map Tk.r))),(7,.d (.str (spacedTo T l i))),(8,.d (aI i))]) (λi=>aK []) (λi=>i<=T.length) (λi=>T.length-i) 0 (aA G [0,1,5,7,8] []) ((A7 _)) λi Y=>?_;apply aF;apply bE;simp;refine⟨λS=>?_,λS=>?_⟩
 .apply aG;simp;apply eG;apply aF;have M:i<T.length:=aE;obtain⟨t,K⟩:∃t,T[i]=t:=⟨_,rfl⟩;have m:T[i]? =some t:=by rw[A3 M,K]
  have p:t∈T:=B9 m;obtain⟨a,V,W,B⟩:=E t p;refine fF.rd [] [] (λ_=>none) ?_;simp[m,Tk.r,V,PO,B];refine⟨⟨M,aE,aE⟩,?_⟩;apply aF;have U:=JI l i 6 hl bK;refine bG (og 37 (.plain ⟨.d (aI (eA l i 6)),true⟩)) ?_;simp;refine⟨U,?_⟩;apply aF;obtain⟨c,f⟩:∃c,spacedTo T l i=c:=⟨_,rfl⟩;have F:=uK T l 17 q i;rw[f]at F;have N:i*(17+4)<=100000000*(17+4):=Nat.mul_le_mul_right _ aE;obtain⟨d,C⟩:∃d,c[c.length-1]?.getD 0=d:=⟨_,rfl⟩;have x:=uB t.text 0 aE;have y:=yO t.text 0 aE;have z:=JY d;have O:0<c.length↔c≠[]:=E9;refine bG (λ|43=>some<| .plain ⟨.d (.bool (firstIs letterB t.text)),true⟩|46=>some<| .plain ⟨.d (.bool (firstIs digitB t.text)),true⟩|71=>some<| .plain ⟨.d (.bool (decide (d∈signs))),true⟩|_=>none) ?_;simp[f,C];refine⟨by(repeat' with_reducible apply And.intro)<;>intros<;>first|(with_reducible exact z)|omega|(simpa using x)|(simpa using y)|(constructor<;>first|omega|assumption),?_⟩;apply eP;simp;refine⟨by(repeat' with_reducible apply And.intro)<;>intros<;>((repeat' with_reducible apply And.intro)<;>first|assumption|grind),?_⟩;apply aM;simp;refine⟨λg=>?_,λg1 P Q=>?_⟩
  .have A:=(Qp C).2 g;have o:T.getD i default=t:=by rw[A1,m];rfl
   have b:=xG T l i;rw[f,o,if_pos A]at b;have Z:=cC l i 6 bK;have k:0<=(eA l i 6).tmod 3/\(eA l i 6).tmod 3<3:=by rw[B8 Z.1];omega
   have u:=Xf k.1 k.2;have H:(sepsL.getD ((eA l i 6).tmod 3).toNat []).length<=4:=by
    rw[A1];cases e:sepsL[((eA l i 6).tmod 3).toNat]? with
    |none=>simp
    |some w=>exact(by decide:∀w∈sepsL,w.length<=4) w (B9 e)
   obtain⟨v,I⟩:∃v,sepsL.getD ((eA l i 6).tmod 3).toNat []=v:=⟨_,rfl⟩;rw[I]at u H b;apply aJ;simp[u];refine⟨⟨⟨⟨bK,k⟩,k.2⟩,aE⟩,?_⟩;have L:=q t p;apply aJ;simp[B0];refine⟨aE,?_⟩;apply aJ;simp;refine⟨aE,?_⟩;refine On.mk (i+1) (aA G [0,1,5,7,8] [] (by simp[b])) ?_ ?_
   .omega
   .omega
  .have A:spB c t.text (eA l i 6) i=false:=by
    cases e:spB c t.text (eA l i 6) i with
    |false=>rfl
    |true=>
     rcases(Qp C).1 e with(h|h)|h
     .omega
     .exact absurd (P h.1.1.1.1 h.1.1.1.2 h.1.1.2 h.1.2) h.2
     .exact absurd h.2 (not_or.2 (Q h.1))
   have o:T.getD i default=t:=(by rw[A1,m];rfl);have b:=xG T l i;rw[f,o,if_neg (by simp[A])]at b;apply aG;simp;have L:=q t p;apply aJ;simp[B0];refine⟨aE,?_⟩;apply aJ;simp;refine⟨aE,?_⟩;refine On.mk (i+1) (aA G [0,1,5,7,8] [] (by simp[b])) ?_ ?_
   .omega
   .omega
 .apply bP;simp;apply aD;simp;apply aH;simp;rw[show i=T.length by omega];unfold spacedS;rw[j]
theorem NY(s:bC)(l:List Int):(spacedS s l).length<=21*s.length:=by
 have a:cF (scanS s).1:=nK _ _ _;have h:=uK (scanS s).1 l 17 (λt b=>Ih (a t b)) (scanS s).1.length;have c:(scanS s).1.length<=s.length:=nR _ _ _;unfold spacedS;omega
end
end Go.Eng
