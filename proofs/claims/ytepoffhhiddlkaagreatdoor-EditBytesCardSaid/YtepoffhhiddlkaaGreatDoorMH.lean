/- Part 8 of the proof. No condition. -/
import Derived.Test.YtepoffhhiddlkaaGreatDoorMG
open Go.Proofs
set_option linter.unusedVariables false
set_option linter.unusedSimpArgs false
set_option maxRecDepth 20000
set_option maxHeartbeats 4000000
namespace Go.Eng
def kH(B:List UInt8)(t:Nat):List LV:=wL (cU B t++List.replicate (64-t) 0)
def BC(B:List UInt8)(t:Nat):Nat->BitVec 32
 |0=>0
 |j+1=>BC B t j<<<8|||FF (B.getD (4*t+j) 0)
def wV(B:List UInt8)(t j:Nat):List LV:=wL (cU B t++(BC B t j::List.replicate (63-t) 0))
theorem Mk(B:List UInt8)(t:Nat):BC B t 4=DY B t:=by
 simp only[BC,Nat.add_zero];exact JO _ _ _ _
theorem JX(B:List UInt8):kH B 0=List.replicate 64 (.d (dF 0)):=by simp[kH,cU,wL]
theorem nT(B:List UInt8){t:Nat}(h:t<=64):(kH B t).length=64:=by simp[kH,mA,eP];omega
theorem Ml(B:List UInt8){t j:Nat}(h:t<64):(wV B t j).length=64:=by simp[wV,mA,eP];omega
theorem CV(B:List UInt8){t:Nat}(h:t<64):wV B t 0=kH B t:=by
 unfold wV kH BC;rw[show 64-t=63-t+1 by omega,List.replicate_succ]
theorem zJ(B:List UInt8){t:Nat}(h:t<16):cU B (t+1)=cU B t++[DY B t]:=by rw[cU,if_pos h]
theorem BD(B:List UInt8){t:Nat}(h:¬t<16):cU B (t+1)=cU B t++[wd (cU B t) (t-16)+NK (wd (cU B t) (t-15))+wd (cU B t) (t-7)+NL (wd (cU B t) (t-2))]:=by rw[cU,if_neg h]
theorem Mm(B:List UInt8){t:Nat}(h:t<16):wV B t 4=kH B (t+1):=by
 unfold wV kH;rw[Mk,zJ B h,show 64-(t+1)=63-t by omega];simp
theorem Ec(ws:List (BitVec 32)){i:Nat}(h:i<ws.length):(wL ws)[i]? =some (.d (dF (ws.getD i 0))):=by
 unfold wL;rw[List.getElem?_map,List.getElem?_eq_getElem h,List.getD_eq_getElem?_getD,List.getElem?_eq_getElem h];rfl
theorem Mn(A B:List (BitVec 32)):wL (A++B)=wL A++wL B:=by simp[wL]
theorem Mo(A B:List (BitVec 32))(x y:BitVec 32){t:Nat}(h:A.length=t):aQ t (wL (A++(x::B))) [.d (dF y)]=wL (A++(y::B)):=by
 have e:=pL (A:=wL A) (B:=wL (x::B)) (new:=[LV.d (dF y)]) (k:=t) (n:=0) (by rw[mA,h]);rw[Mn,Mn];rw[Nat.add_zero]at e;rw[e];rfl
theorem Mp(B:List UInt8){t j:Nat}:(wV B t j)[t]? =some (.d (dF (BC B t j))):=by
 unfold wV;rw[Ec _ (by simp[eP])];simp[eP]
theorem Mq(B:List UInt8){t j:Nat}:aQ t (wV B t j) [.d (dF (BC B t j<<<8|||FF (B.getD (4*t+j) 0)))]=wV B t (j+1):=Mo _ _ _ _ (eP B t)
theorem lX(B:List UInt8){t i:Nat}(h:i<t):(kH B t)[i]? =some (.d (dF (wd (cU B t) i))):=by
 unfold kH;rw[Ec _ (by simp[eP];omega)];unfold wd;rw[List.getD_eq_getElem?_getD,List.getD_eq_getElem?_getD,List.getElem?_append_left (by rw[eP];exact h)]
theorem BE(B:List UInt8){t:Nat}(h:t<64)(y:BitVec 32)(e:cU B (t+1)=cU B t++[y]):aQ t (kH B t) [.d (dF y)]=kH B (t+1):=by
 rw[<-CV B h];unfold wV;rw[Mo _ _ _ _ (eP B t)];unfold kH;rw[e,show 64-(t+1)=63-t by omega];simp
theorem FJ(B:List UInt8):kH B 64=wL (cU B 64):=by simp[kH]
theorem Ee(ws:List (BitVec 32)){n:Nat}(h:ws.length<=n):(wL ws).take n=wL ws:=List.take_of_length_le (by rw[mA];exact h)
theorem Mr(ws:List (BitVec 32)):(wD ws).length=ws.length:=by simp[wD]
theorem Ms(ws:List (BitVec 32)){i:Nat}(h:i<ws.length):(wD ws)[i]? =some (dF (ws.getD i 0)):=by
 unfold wD;rw[List.getElem?_map,List.getElem?_eq_getElem h,List.getD_eq_getElem?_getD,List.getElem?_eq_getElem h];rfl
def lJ(op:BinOp)(k:IntKind)(a:Int)(k':IntKind)(b:Int):iO:=
 match op with
 | .add=>if k=k' then(if k=.i64 then .cond (.d (.int k (a+b))) (-9223372036854775808<=a+b/\a+b<=9223372036854775807)else .plain (.d (.int k (k.wrap (a+b)))))else .fail
 | .sub=>if k=k' then(if k=.i64 then .cond (.d (.int k (a-b))) (-9223372036854775808<=a-b/\a-b<=9223372036854775807)else .plain (.d (.int k (k.wrap (a-b)))))else .fail
 | .mul=>if k=k' then(if k=.i64 then .cond (.d (.int k (a*b))) (-9223372036854775808<=a*b/\a*b<=9223372036854775807)else .plain (.d (.int k (k.wrap (a*b)))))else .fail
 | .quo=>if k=k' then(if k=.i64 then .cond (.d (.int k (a.tdiv b))) (b≠0/\ -9223372036854775808<=a.tdiv b/\a.tdiv b<=9223372036854775807)else .cond (.d (.int k (k.wrap (a.tdiv b)))) (b≠0))else .fail
 | .rem=>if k=k' then .cond (.d (.int k (a.tmod b))) (b≠0)else .fail
 | .lss=>if k=k' then .plain (.d (.bool (decide (a<b))))else .fail
 | .leq=>if k=k' then .plain (.d (.bool (decide (a<=b))))else .fail
 | .gtr=>if k=k' then .plain (.d (.bool (decide (a>b))))else .fail
 | .geq=>if k=k' then .plain (.d (.bool (decide (a>=b))))else .fail
 | .eql=>if k=k' then .plain (.d (.bool (decide (a=b))))else .fail
 | .neq=>if k=k' then .plain (.d (.bool (!decide (a=b))))else .fail
 | .shl=>.cond (.d (.int k (k.wrap (a*2^min b.toNat k.bits)))) (0<=b)
 | .shr=>.cond (.d (.int k (a.fdiv (2^min b.toNat k.bits)))) (0<=b)
 | .and=>if k=k' then .plain (.d (.int k (k.wrap (BitVec.ofInt k.bits a&&&BitVec.ofInt k.bits b).toNat)))else .fail
 | .or=>if k=k' then .plain (.d (.int k (k.wrap (BitVec.ofInt k.bits a|||BitVec.ofInt k.bits b).toNat)))else .fail
 | .xor=>if k=k' then .plain (.d (.int k (k.wrap (BitVec.ofInt k.bits a^^^BitVec.ofInt k.bits b).toNat)))else .fail
 |_=>.fail
theorem mK(eqk:List TK)(tb:Bool)(op:BinOp)(k k':IntKind)(a b:Int):bA eqk tb op (.d (.int k a)) (.d (.int k' b))=lJ op k a k' b:=rfl
theorem kI(eqk:List TK)(tb:Bool)(a b:List UInt8):bA eqk tb .neq (.d (.str a)) (.d (.str b))=.plain (.d (.bool (!(a==b)))):=rfl
theorem rA(n:Int):bW .neg (.d (.int .i64 n))=.cond (.d (.int .i64 (0-n))) (-9223372036854775808<=0-n/\0-n<=9223372036854775807):=rfl
theorem kJ(T:TypeId->eC)(H:Nat->aV){s t:TypeId}{k1 k2:IntKind}(h1:(T s).k=.int k1)(h2:(T t).k=.int k2)(k:IntKind)(n:Int):aZ T H s t (.d (.int k n))=.plain (.d (.int k2 (k2.wrap n))):=by
 simp only[aZ,h1,h2]
theorem kK(T:TypeId->eC)(H:Nat->aV){s t e:TypeId}(h1:(T s).k=.slice e)(h2:(T t).k=.str)(h3:(T e).k=.int .u8)(x:LV):aZ T H s t x=match oQ H x with|some ys=>.cond (.d (.str (ys.map iX))) (∀y∈ys,∃n,y=.int .u8 n)|none=>.fail:=by
 simp only[aZ,h1,h2,h3];cases oQ H x<;>rfl
theorem fG(T:TypeId->eC)(H:Nat->aV){s t e:TypeId}(h1:(T s).k=.str)(h2:(T t).k=.slice e)(h3:(T e).k=.int .u8)(l:List UInt8):aZ T H s t (.d (.str l))=.cond (.d (.sl (l.map dP))) (l.length<=16777216):=by
 simp only[aZ,h1,h2,h3];rfl
theorem BF(B:List UInt8):kH B 0=List.replicate 64 (.d (.int .u32 0)):=JX B
theorem HI{l:List LV}{i:Nat}{x:LV}(e:l[i]? =some x)(h:i<l.length):l[i]'h=x:=by
 rw[List.getElem?_eq_getElem h]at e;exact Option.some.inj e
theorem Mt(s:fQ):∀c∈iM s,∃k n,c=.int k n:=λc hc=>by
 simp only[iM,Ea,List.mem_append,List.mem_cons,List.not_mem_nil,or_false,List.mem_map]at hc;rcases hc with(h|h|h|h|h|h|h|h)|⟨b,_,h⟩|h
 all_goals first|exact⟨_,_,h⟩|exact⟨_,_,h.symm⟩
theorem rB(l:List UInt8):∀c∈cN l,∃k n,c=.int k n:=λc hc=>by
 obtain⟨b,_,h⟩:=List.mem_map.1 hc;exact⟨_,_,h.symm⟩
theorem kL(s:List UInt8):(jC s).length=(eK s.length).length+s.length:=by simp[jC]
theorem mL(ws:List (BitVec 32)):rT (wL ws)=some (wD ws):=by rw[Mh,dT]
theorem mM(s:H8):rT (yD s)=some (Ea s):=dT _
theorem iH(s:fQ):rT (cM s)=some (iM s):=dT _
def Ko(tag:Nat)(parts:List (List UInt8)):Nat->fQ
 |0=>tB qY [UInt8.ofNat tag]
 |i+1=>tB (Ko tag parts i) (toS (jC (parts.getD i [])))
theorem FK(tag:Nat)(parts:List (List UInt8)){i:Nat}(h:i<parts.length):uP tag (parts.take (i+1))=uP tag (parts.take i)++toS (jC (parts.getD i [])):=by
 unfold uP;rw[<-List.take_append_getElem h,List.flatMap_append,List.getD_eq_getElem?_getD,List.getElem?_eq_getElem h];simp
theorem mU(tag:Nat)(parts:List (List UInt8)):∀i,i<=parts.length->sY (uP tag (parts.take i)) (Ko tag parts i)
 |0,_=>vF FH [UInt8.ofNat tag]
 |i+1,h=>by
  rw[FK tag parts (by omega)];exact vF (mU tag parts i (by omega)) _
theorem tW(l:List Nat):(toS l).length=l.length:=by simp[toS]
theorem Af(tag:Nat){k:Nat}:∀{parts:List (List UInt8)},(∀s∈parts,(jC s).length<=k)->(uP tag parts).length<=1+parts.length*k
 |[],_=>by simp[uP]
 |s::r,h=>by
  have h1:=Af tag (parts:=r) λx hx=>h x (List.mem_cons_of_mem _ hx);have h2:=h s (List.mem_cons_self ..);simp only[uP,List.flatMap_cons,List.length_cons,List.length_append,tW,Nat.add_mul]at*;omega
theorem Ef(l:List Nat):(l.map bD).map iX=toS l:=by
 rw[List.map_map];apply List.map_congr_left;intro x _;simp[iX,bD]
theorem rC{σ:List (Nat×Nat)}{n id k m c:Nat}:ren σ (n+1) (.sb id k m c)=match cY σ id with|some i=>.sb i k m c|none=>.junk:=rfl
theorem iI{id k m c:Nat}:cS (.sb id k m c)=[.sb id k m c]:=rfl
theorem rD(σ:List (Nat×Nat))(l:List DV):(l.map LV.d).map (ren σ 8)=l.map .d:=by
 rw[List.map_map];rfl
theorem iT(σ:List (Nat×Nat))(s:fQ):(cM s).map (ren σ 8)=cM s:=rD _ _
theorem nU(σ:List (Nat×Nat))(l:List (BitVec 32)):(wL l).map (ren σ 8)=wL l:=by rw[Mh,rD]
theorem kM(σ:List (Nat×Nat))(B:List UInt8)(t:Nat):(kH B t).map (ren σ 8)=kH B t:=nU _ _
theorem kN(σ:List (Nat×Nat))(B:List UInt8)(t j:Nat):(wV B t j).map (ren σ 8)=wV B t j:=nU _ _
def vD(s:H8):List DV:=[dF s.a,dF s.b,dF s.c,dF s.d]
def eD(s:H8):List DV:=[dF s.e,dF s.f,dF s.g,dF s.h]
def vL(s:H8):List LV:=[.d (dF s.a),.d (dF s.b),.d (dF s.c),.d (dF s.d)]
def eL(s:H8):List LV:=[.d (dF s.e),.d (dF s.f),.d (dF s.g),.d (dF s.h)]
theorem rE(s:H8):rT (vL s)=some (vD s):=dT (vD s)
theorem rF(s:H8):rT (eL s)=some (eD s):=dT (eD s)
theorem tC(s:H8):(vD s).map LV.d=vL s:=rfl
theorem tD(s:H8):(eD s).map LV.d=eL s:=rfl
theorem oO(s:H8):(Ea s).map LV.d=yD s:=rfl
theorem oW(l:List (BitVec 32)):(wD l).map LV.d=wL l:=(Mh l).symm
theorem jS(s:fQ):(iM s).map LV.d=cM s:=rfl
theorem rG(σ:List (Nat×Nat))(s:H8):(vL s).map (ren σ 8)=vL s:=rD σ (vD s)
theorem rH(σ:List (Nat×Nat))(s:H8):(eL s).map (ren σ 8)=eL s:=rD σ (eD s)
theorem mN(σ:List (Nat×Nat))(s:H8):(yD s).map (ren σ 8)=yD s:=rD _ _
theorem Mu(s:H8):(yD s).take 8=yD s:=rfl
theorem Qq(s:H8):(yD s).take 4=vL s:=rfl
theorem Qr(s:H8):((yD s).drop 4).take 4=eL s:=rfl
theorem wW(s:H8):(yD s).length=8:=rfl
theorem Mv(s:H8):(vL s).length=4:=rfl
theorem Mw(s:H8):(eL s).length=4:=rfl
theorem cA{α:Type}{A B:List α}(h:A.length<=B.length):aQ 0 A B=B:=by simp[aQ,h]
def Ek(s:H8)(i:Nat):BitVec 32:=[s.a,s.b,s.c,s.d,s.e,s.f,s.g,s.h].getD i 0
def rM(s r:H8)(j:Nat):List LV:=(List.range 8).map λi=>.d (dF (if i%4<j then Ek s i+Ek r i else Ek s i))
theorem kO(σ:List (Nat×Nat))(s r:H8)(j:Nat):(rM s r j).map (ren σ 8)=rM s r j:=by
 unfold rM;rw[List.map_map];rfl
theorem JY(s r:H8):rM s r 0=yD s:=by simp[rM,yD,Ea,List.range_succ,Ek]
theorem Mx(s r:H8):rM s r 4=yD (s.add r):=by simp[rM,yD,Ea,List.range_succ,Ek,H8.add]
theorem My(s r:H8)(j:Nat):(rM s r j).length=8:=by simp[rM]
theorem JZ{j:Nat}(h:j<4):j=0\/j=1\/j=2\/j=3:=by omega
theorem Mz(s r:H8){j:Nat}(h:j<4):(rM s r j)[j]? =some (.d (dF (Ek s j))):=by
 rcases JZ h with rfl|rfl|rfl|rfl<;>simp[rM,List.range_succ]
theorem Ka(s r:H8){j:Nat}(h:j<4)(x:LV):(aQ j (rM s r j) [x])[j+4]? =some (.d (dF (Ek s (j+4)))):=by
 rcases JZ h with rfl|rfl|rfl|rfl<;>simp[rM,List.range_succ,aQ]
theorem MA(s r:H8){j:Nat}(h:j<4):aQ (j+4) (aQ j (rM s r j) [.d (dF (Ek s j+Ek r j))]) [.d (dF (Ek s (j+4)+Ek r (j+4)))]=rM s r (j+1):=by
 rcases JZ h with rfl|rfl|rfl|rfl<;>simp[rM,List.range_succ,aQ]
theorem Pf(r:H8){j:Nat}(h:j<4):(vL r)[j]? =some (.d (dF (Ek r j))):=by
 rcases JZ h with rfl|rfl|rfl|rfl<;>rfl
theorem Pg(r:H8){j:Nat}(h:j<4):(eL r)[j]? =some (.d (dF (Ek r (j+4)))):=by
 rcases JZ h with rfl|rfl|rfl|rfl<;>rfl
theorem MB(s:H8){i:Nat}(h:i<8):(yD s)[i]? =some (.d (dF (Ek s i))):=by
 rcases(by omega:i=0\/i=1\/i=2\/i=3\/i=4\/i=5\/i=6\/i=7)with rfl|rfl|rfl|rfl|rfl|rfl|rfl|rfl<;>rfl
theorem Ph(st:fQ){i:Nat}(h:i<8):(cM st)[i]? =some (.d (dF (Ek st.s i))):=by
 rw[<-MB st.s h];unfold cM iM yD;rw[List.map_append,List.getElem?_append_left (by simpa [Ea]using h)]
theorem Kb(s:H8){i:Nat}(h:i<32):(mD s)[i]? =some (PO (Ek s (i / 4)>>>(24-8*(i%4)))):=by
 obtain⟨q,r,rfl,hr,hq⟩:∃q r,i=4*q+r/\r<4/\q<8:=⟨i / 4,i%4,by omega,by omega,by omega⟩;rw[show(4*q+r) / 4=q by omega,show(4*q+r)%4=r by omega];rcases JZ hr with rfl|rfl|rfl|rfl<;>
 rcases(by omega:q=0\/q=1\/q=2\/q=3\/q=4\/q=5\/q=6\/q=7)with rfl|rfl|rfl|rfl|rfl|rfl|rfl|rfl<;>simp[mD,Ek,PO]
def lF(s:H8)(i:Nat):List LV:=(((mD s).take i++List.replicate (32-i) 0).map dP).map .d
theorem pN(s:H8){i:Nat}(h:i<=32):(lF s i).length=32:=by simp[lF,pM];omega
theorem kP(σ:List (Nat×Nat))(s:H8)(i:Nat):(lF s i).map (ren σ 8)=lF s i:=rD _ _
theorem tX(s:H8):lF s 0=List.replicate 32 (.d (dP 0)):=by simp[lF]
theorem FL(s:H8):lF s 32=((mD s).map dP).map .d:=by simp[lF,List.take_of_length_le (Nat.le_of_eq (pM s))]
theorem FM(s:H8){i:Nat}(h:i<32):aQ i (lF s i) [.d (dP (PO (Ek s (i / 4)>>>(24-8*(i%4)))))]=lF s (i+1):=by
 have e:=Kb s h;have hl:i<(mD s).length:=by rw[pM];exact h
 rw[List.getElem?_eq_getElem hl]at e;have e:=Option.some.inj e;rw[<-e];have hk:((mD s).take i).length=i:=by rw[List.length_take,pM];omega
 have e2:=pL (A:=(mD s).take i) (B:=0::List.replicate (31-i) 0) (new:=[(mD s)[i]]) (k:=i) (n:=0) hk;rw[Nat.add_zero]at e2;unfold lF;rw[show [LV.d (dP (mD s)[i])]=([(mD s)[i]].map dP).map .d by rfl,lW,lW,show 32-i=31-i+1 by omega,List.replicate_succ,e2,<-List.take_append_getElem hl,show 32-(i+1)=31-i by omega,List.append_assoc];rfl
def nY(n i:Nat):List UInt8:=128::List.replicate ((119-n%64)%64) 0++(JP (8*n)).take i
theorem BG(n:Nat):(JP n).length=8:=by simp[JP]
theorem tY(n:Nat):nY n 0=128::List.replicate ((119-n%64)%64) 0:=by simp[nY]
theorem tE(n:Nat):nY n 8=nR n:=by simp[nY,nR,List.take_of_length_le (Nat.le_of_eq (BG _))]
theorem tZ(n:Nat){i:Nat}(h:i<8):nY n (i+1)=nY n i++[UInt8.ofNat (8*n / 256^(7-i))]:=by
 unfold nY;rw[<-List.take_append_getElem (by rw[BG];exact h)];simp[JP]
theorem wX(n:Nat){i:Nat}(h:i<=8):(nY n i).length=1+(119-n%64)%64+i:=by simp[nY,BG];omega
theorem FN(M:Nat){i:Nat}(h:i<8):(M:Int).fdiv (2^min (56-8*(i:Int)).toNat IntKind.u64.bits)=((M / 256^(7-i):Nat):Int):=by
 show(M:Int).fdiv (2^min (56-8*(i:Int)).toNat 64)=((M / 256^(7-i):Nat):Int);have e:(2:Int)^(8*(7-i))=((256^(7-i):Nat):Int):=by
  rw[Int.pow_mul,Int.natCast_pow];rfl
 rw[show min (56-8*(i:Int)).toNat 64=8*(7-i)by omega,e,Int.fdiv_eq_ediv_of_nonneg _ (Int.natCast_nonneg _),Int.natCast_ediv]
theorem Ir(n:Nat):DV.int .u8 (IntKind.u8.wrap (n:Int))=dP (UInt8.ofNat n):=by
 unfold dP IntKind.wrap;simp[IntKind.bits,IntKind.signed,UInt8.toNat_ofNat]
section
attribute[local simp] iC iD jZ iE gH kA iF iG mI kB kC kD kE iR
attribute[local simp] mK lJ kI rA kJ kK fG iO.cond iB mL mM iH rE rF rC iI iT nU kM kN rG rH mN kO kP
theorem vG(x:BitVec 32)(k:Nat)(h0:0<k)(hk:k<32):Ok Tryz.prog 267 [dF x,aT (-(k:Int))] ⟨.d (dF (uO x k)),true⟩:=by
 refine bE Tryz.func267 rfl Tryz.ntmps267 Tryz.results267 λw0 X hp=>?_;have hs:=PQ k hk h0;have hw:IntKind.u64.wrap (32-((32-k:Nat):Int))=(k:Int):=by rw[show(32:Int)-((32-k:Nat):Int)=(k:Int)by omega];exact lE (by omega)
 refine aA ?_;simp;refine aA ?_;simp[hs];refine aA ?_;simp[hw,Mc];refine aN ?_;simp[dF]
theorem NO(x:BitVec 32):Ok Tryz.prog 267 [dF x,aT (-7)] ⟨.d (dF (uO x 7)),true⟩:=vG x 7 (by decide) (by decide)
theorem MC(x:BitVec 32):Ok Tryz.prog 267 [dF x,aT (-18)] ⟨.d (dF (uO x 18)),true⟩:=vG x 18 (by decide) (by decide)
theorem MD(x:BitVec 32):Ok Tryz.prog 267 [dF x,aT (-17)] ⟨.d (dF (uO x 17)),true⟩:=vG x 17 (by decide) (by decide)
theorem ME(x:BitVec 32):Ok Tryz.prog 267 [dF x,aT (-19)] ⟨.d (dF (uO x 19)),true⟩:=vG x 19 (by decide) (by decide)
theorem MF(x:BitVec 32)(i j k:Nat)(h1:0<i/\i<32)(h2:0<j/\j<32)(h3:0<k/\k<32):Ok Tryz.prog 198 [dF x,aT i,aT j,aT k] ⟨.d (dF (FG x i j k)),true⟩:=by
 refine bE Tryz.func198 rfl Tryz.ntmps198 Tryz.results198 λw0 X hp=>?_;refine aA ?_;simp;refine aS hT hW (λ|12=>some<| .plain ⟨.d (dF (uO x i)),true⟩|16=>some<| .plain ⟨.d (dF (uO x j)),true⟩|21=>some<| .plain ⟨.d (dF (uO x k)),true⟩|_=>none) ?_;simp;refine⟨⟨⟨⟨⟨⟨by omega,vG x i h1.1 h1.2⟩,by omega⟩,vG x j h2.1 h2.2⟩,by omega⟩,vG x k h3.1 h3.2⟩,?_⟩;refine aN ?_;simp[dF,FG]
theorem FO(st:fQ)(hB:st.B.length=64):BO Tryz.prog 197 [.sb 0 8 64 64] [(0,.box false (cM st))] [(0,.box false (cM st))] (.d (.agg (wD (cU st.B 64)))):=by
 refine Ly Tryz.func197 rfl Tryz.ntmps197 Tryz.results197 λw0 X hp=>?_;have hlen:=fE hB;refine aA ?_;simp;refine aA ?_;simp;refine aB ?_;refine aA ?_;simp;refine aF ?_;refine aJ (ι:=Nat) (λt=>aU [(0,.sb 0 8 64 64),(2,.bx 2 0),(3,.bx 3 0),(11,.d (aT t))]) (λt=>aL [(0,.box false (cM st)),(2,.box false (kH st.B 0)),(3,.box false (kH st.B t))]) (λt=>t<=64) (λt=>64-t) 0 (aC hp [0,2,3,11] [(0,0),(2,2),(3,3)] (hH:=by simp[BF])) (Nat.zero_le _) λt hi3=>?_;refine aA ?_;simp;refine aB ?_;refine aD ?_;simp;refine⟨λh3=>?_,λh3=>?_⟩
 ·refine aH ?_;simp;refine aB ?_;refine aF ?_;refine aA ?_;simp;refine aB ?_;refine aB ?_;have htl:=nT st.B hi3;refine aG ?_;simp;refine aD ?_;simp;refine⟨λh5=>?_,λh5=>?_⟩
  ·refine aB ?_;refine aB ?_;have e1:(4*(t:Int)).toNat=4*t:=by omega
   have e2:(4*(t:Int)+4-4*(t:Int)).toNat=4:=(by omega);refine aG ?_;simp[e1,e2];refine⟨by omega,?_⟩;refine aF ?_;refine aJ (ι:=Nat) (λj=>aU [(0,.sb 0 8 64 64),(2,.bx 2 0),(3,.bx 3 0),(4,.d (aT t)),(11,.d (aT t)),(22,.sb 0 (8+4*t) 4 (64-4*t)),(23,.d (aT 4)),(24,.d (aT j))]) (λj=>aL [(0,.box false (cM st)),(2,.box false (kH st.B 0)),(3,.box false (wV st.B t j))]) (λj=>j<=4) (λj=>4-j) 0 (aC hp [0,2,3,4,11,22,23,24] [(0,0),(2,2),(3,3)] (hH:=by simp[CV st.B (show t<64 by omega)])) (Nat.zero_le _) λj hi7=>?_;refine aA ?_;simp;refine aB ?_;refine aD ?_;simp;refine⟨λh7=>?_,λh7=>?_⟩
   ·refine aH ?_;simp;refine aB ?_;refine aF ?_;refine aB ?_;have hb:=Pd hB (i:=4*t+j) (by omega);rw[<-Nat.add_assoc]at hb;refine aG ?_;simp[hlen,hb];refine⟨by omega,?_⟩;have hpl:=Ml st.B (t:=t) (j:=j) (by omega);have hpg:=Mp st.B (t:=t) (j:=j);have hput:=Mq st.B (t:=t) (j:=j);simp only[List.getD_eq_getElem?_getD]at hput;refine aG ?_;simp[hpl,hpg];refine⟨by omega,?_⟩;refine aG ?_;simp;refine⟨by omega,?_⟩;refine aI (j+1) (aC hp [0,2,3,4,11,22,23,24] [(0,0),(2,2),(3,3)] (hH:=by simp[hput])) ?_ ?_
    ·omega
    ·omega
   ·refine aO ?_;simp;refine aO ?_;simp;refine aG ?_;simp;refine⟨by omega,?_⟩;have hpa:=Mm st.B (t:=t) (by omega);have hj4:j=4:=by omega
    subst hj4;refine aI (t+1) (aC hp [0,2,3,11] [(0,0),(2,2),(3,3)] (hH:=by simp[hpa])) ?_ ?_
    ·omega
    ·omega
  ·refine aH ?_;simp;refine aB ?_;have i15:((t:Int)- 15).toNat=t-15:=by omega
   have i2:((t:Int)- 2).toNat=t-2:=(by omega);have g15:=lX st.B (t:=t) (i:=t-15) (by omega);have g2:=lX st.B (t:=t) (i:=t-2) (by omega);refine bI [] [] (λ_=>none) ?_;simp[htl,i15,i2,g15,g2];refine⟨by omega,?_⟩;refine aS hT hW (λ|47=>some<| .plain ⟨.d (dF (uO (wd (cU st.B t) (t-15)) 7)),true⟩|49=>some<| .plain ⟨.d (dF (uO (wd (cU st.B t) (t-15)) 18)),true⟩|_=>none) ?_;simp;refine⟨⟨NO _,MC _⟩,?_⟩;refine aS hT hW (λ|55=>some<| .plain ⟨.d (dF (uO (wd (cU st.B t) (t-2)) 17)),true⟩|57=>some<| .plain ⟨.d (dF (uO (wd (cU st.B t) (t-2)) 19)),true⟩|_=>none) ?_;simp;refine⟨⟨MD _,ME _⟩,?_⟩;have i16:((t:Int)- 16).toNat=t-16:=by omega
   have i7:((t:Int)- 7).toNat=t-7:=(by omega);have g16:=lX st.B (t:=t) (i:=t-16) (by omega);have g7:=lX st.B (t:=t) (i:=t-7) (by omega);have hput:=BE st.B (show t<64 by omega) _ (BD st.B (t:=t) (by omega));simp only[NK,NL]at hput;refine bI [] [[],[],[],[],[],[],[],[],[],[],[],[],[],[],[],[3]] (λ_=>none) ?_;simp[htl,i16,i7,g16,g7];refine⟨by omega,?_⟩;refine aG ?_;simp;refine⟨by omega,?_⟩;refine aI (t+1) (aC hp [0,2,3,11] [(0,0),(2,2),(3,3)] (hH:=by simp[hput])) ?_ ?_
   ·omega
   ·omega
 ·refine aO ?_;simp;refine aB ?_;have ht:t=64:=by omega
  subst ht;have hl0:=nT st.B (t:=0) (by omega);have hls:=eP st.B 64;have hta:List.take 64 (kH st.B 64)=wL (cU st.B 64):=by rw[FJ,Ee _ (Nat.le_of_eq hls)]
  have hpw:aQ 0 (kH st.B 0) (wL (cU st.B 64))=wL (cU st.B 64):=cA (by rw[mA,hls,hl0];exact Nat.le_refl _);refine aG ?_;simp[hta,oW,hpw,hl0,nT,mA,hls];refine aN ?_;have hwt:=Ee (cU st.B 64) (Nat.le_of_eq hls);simp[hwt,mA,hls];exact aC hp [0] [(0,0)]
end
section
attribute[local simp] iC iD jZ iE gH kA iF iG mI kB kC kD kE iR
attribute[local simp] mK lJ kI rA kJ kK fG iO.cond fA iB mL mM iH rE rF rC iI iT nU kM kN rG rH mN kO kP tC tD oO oW jS
theorem MG:Kp=wD KS:=by rfl
theorem MH:KS.length=64:=by rfl
set_option maxRecDepth 100000
theorem FP(st:fQ)(s:H8)(hB:st.B.length=64):BO Tryz.prog 132 [.d (.agg (Ea s)),.sb 0 8 64 64] [(0,.box false (cM st))] [(0,.box false (cM st))] (.d (.agg (Ea (comp s st.B)))):=by
 refine Ly Tryz.func132 rfl Tryz.ntmps132 Tryz.results132 λw0 X hp=>?_;have hlen:=fE hB;have hsl:=eP st.B 64;have hcp:comp s st.B=s.add (nX s KS (cU st.B 64) 64):=rfl;obtain⟨V,hV⟩:∃V,V=cU st.B 64:=⟨_,rfl⟩;have hcall:=FO st hB;rw[<-hV]at hsl hcp hcall;have hv4:∀a b c d:LV,aQ 0 [a,b,c,d] (vL s)=vL s:=λ_ _ _ _=>cA (Nat.le_refl 4);have he4:∀a b c d:LV,aQ 0 [a,b,c,d] (eL s)=eL s:=λ_ _ _ _=>cA (Nat.le_refl 4);have hKl:(wD KS).length=64:=rfl;have hKt:List.take 64 (wD KS)=wD KS:=rfl;have hVl:(wL V).length=64:=by rw[mA,hsl]
 have hVd:(wD V).length=64:=by rw[Mr,hsl]
 refine aA ?_;simp;refine aS hT hW (λ|14=>some (.gen ⟨[(0,0)],[],[],[(0,.box false (cM st))],.d (.agg (wD V))⟩)|_=>none) ?_;simp[hVl,hVd];refine⟨hcall,?_⟩;refine aB ?_;refine bI [[6,7],[6,7],[6,7],[6,7],[6,7],[6,7],[7],[6]] [[],[],[],[],[],[],[6],[7],[6],[7]] (λ_=>none) ?_;simp[Qq,Qr,Mv,Mw,wW];refine aB ?_;refine aA ?_;simp[MG,hKl,hKt];refine aF ?_;refine aJ (ι:=Nat) (λt=>aU [(2,.bx 2 0),(4,.bx 4 0),(5,.bx 5 0),(6,.bx 6 0),(7,.bx 7 0),(21,.d (.agg (wD KS))),(22,.d (aT t))]) (λt=>aL [(0,.box false (cM st)),(2,.box false (yD s)),(4,.box false (List.replicate 8 (.d (.int .u32 0)))),(5,.box false (wL V)),(6,.box false (vL (nX s KS V t))),(7,.box false (eL (nX s KS V t)))]) (λt=>t<=64) (λt=>64-t) 0 (aC hp [2,4,5,6,7,21,22] [(0,0),(2,2),(4,4),(5,5),(6,6),(7,7)] (hH:=by simp[nX,List.replicate,cA,hVl,hv4,he4])) (Nat.zero_le _) λt hi4=>?_;refine aA ?_;simp;refine aB ?_;refine aD ?_;simp;refine⟨λh4=>?_,λh4=>?_⟩
 ·refine aH ?_;simp;refine aB ?_;refine aF ?_;refine aB ?_;have hk:=Ms KS (i:=t) (by rw[MH];omega);refine aG ?_;simp[hk,hKl];refine⟨by omega,?_⟩;refine aB ?_;have hw:=Ec V (i:=t) (by omega);obtain⟨r,hr⟩:∃r,r=nX s KS V t:=⟨_,rfl⟩;have hrs:nX s KS V (t+1)=Md r (KS.getD t 0) (V.getD t 0):=by rw[hr];rfl
  rw[<-hr];refine bI [[30],[30],[],[],[],[],[30],[30],[30],[30],[30],[30],[30],[30],[30],[30],[30],[30],[],[30],[],[30],[30],[30]] [[],[],[],[],[30]] (λ|30=>some<| .plain ⟨.d (dF (FG r.e 6 11 25)),true⟩|_=>none) ?_;simp[hw,eL,hVl];refine⟨⟨⟨MF r.e 6 11 25 (by decide) (by decide) (by decide),by omega⟩,by omega⟩,?_⟩;refine aB ?_;refine bI [[],[],[],[53],[53],[53],[53],[53],[53],[53],[53],[53],[53],[53],[53],[53],[53],[53],[53],[53]] [[],[],[53]] (λ|53=>some<| .plain ⟨.d (dF (FG r.a 2 13 22)),true⟩|_=>none) ?_;simp[vL];refine⟨MF r.a 2 13 22 (by decide) (by decide) (by decide),?_⟩;refine aA ?_;simp[vL,eL,aQ];refine aG ?_;simp[vL,eL,aQ];refine aG ?_;simp;refine⟨by omega,?_⟩;refine aI (t+1) (aC hp [2,4,5,6,7,21,22] [(0,0),(2,2),(4,4),(5,5),(6,6),(7,7)] (hH:=by simp[hrs,Md,vL,eL,aQ])) ?_ ?_
  ·omega
  ·omega
 ·refine aO ?_;simp;refine aB ?_;refine aB ?_;obtain⟨r,hr⟩:∃r,r=nX s KS V t:=⟨_,rfl⟩;refine aG ?_;simp;refine aF ?_;refine aJ (ι:=Nat) (λj=>aU [(2,.bx 2 0),(4,.bx 4 0),(6,.bx 6 0),(7,.bx 7 0),(94,.d (aT j))]) (λj=>aL [(0,.box false (cM st)),(2,.box false (rM s r j)),(4,.box false (List.replicate 8 (.d (.int .u32 0)))),(6,.box false (vL r)),(7,.box false (eL r))]) (λj=>j<=4) (λj=>4-j) 0 (aC hp [2,4,6,7,94] [(0,0),(2,2),(4,4),(6,6),(7,7)] (hH:=by simp[JY,hr])) (Nat.zero_le _) λj hi12=>?_;refine aA ?_;simp;refine aB ?_;refine aD ?_;simp;refine⟨λh12=>?_,λh12=>?_⟩
  ·refine aH ?_;simp;refine aB ?_;refine aF ?_;refine aA ?_;simp;refine aB ?_;have ha:=Mz s r (show j<4 by omega);have hv:=Pf r (show j<4 by omega);have he:=Pg r (show j<4 by omega);have hal:=My s r j;have ha4:=Ka s r (show j<4 by omega);have hput:=MA s r (show j<4 by omega);refine bI [] [[],[],[],[],[],[],[],[],[2]] (λ_=>none) ?_;simp[ha,hv,hal,Mv];refine⟨by omega,?_⟩;have hpl:∀x:LV,(aQ j (rM s r j) [x]).length=8:=λx=>by rw[yE (by rw[hal];simp;omega),hal]
   have hj4:((j:Int)+4).toNat=j+4:=(by omega);refine bI [] [[],[],[],[],[],[],[],[],[],[2]] (λ_=>none) ?_;simp[hj4,ha4,he,hpl,Mw];refine⟨by omega,?_⟩;refine aG ?_;simp;refine⟨by omega,?_⟩;refine aI (j+1) (aC hp [2,4,6,7,94] [(0,0),(2,2),(4,4),(6,6),(7,7)] (hH:=by simp[hput])) ?_ ?_
   ·omega
   ·omega
  ·refine aO ?_;simp;refine aB ?_;have hj:j=4:=by omega
   subst hj;have ht:t=64:=by omega
   subst ht;have hz8:∀a b c d e f g h:LV,aQ 0 [a,b,c,d,e,f,g,h] (yD (s.add r))=yD (s.add r):=λ_ _ _ _ _ _ _ _=>cA (Nat.le_refl 8);refine aG ?_;simp[hz8,Mx,wW,Mu,cA];refine aN ?_;rw[hcp,<-hr];simp[wW,Mu];exact aC hp [0] [(0,0)]
end
section
attribute[local simp] bA bW aQ aZ
attribute[local simp] iO.cond
def rN(l:List Int)(k:Nat):List Nat:=eK l.length++(l.take k).flatMap eK
theorem pO{l:List Int}:rN l 0=eK l.length:=by simp[rN]
theorem pP{l:List Int}{k:Nat}(hk:k<l.length):rN l (k+1)=rN l k++eK l[k]:=by
 unfold rN;rw[<-List.take_append_getElem hk,List.flatMap_append,<-List.append_assoc];simp
theorem BH{l:List Int}:rN l l.length=bN l:=by rw[rN,List.take_length];rfl
theorem wY{l:List Int}:∀{k:Nat},k<=l.length->(rN l k).length<=9*(k+1)
 |0,_=>by rw[pO];exact fF _
 |k+1,h=>by
  have:=wY (l:=l) (k:=k) (by omega);have:=fF l[k];rw[pP (by omega),List.length_append];omega
theorem yF(l:List Int)(hl:l.length<=1000000)(hr:∀n∈l,vE n):Ok Tryz.prog 54 [.sl (l.map aT)] ⟨.own 1 ((bN l).map bD),true⟩:=by
 refine bE Tryz.func54 rfl Tryz.ntmps54 Tryz.results54 λw0 X hp=>?_;refine aA ?_;simp;refine aS hT hW (λ|7=>some<| .plain ⟨.own 1 ((eK l.length).map bD),true⟩|_=>none) ?_;simp;refine⟨wU _ (rK (by omega)),?_⟩;refine aB ?_;refine aA ?_;simp;refine aF ?_;refine aJ (ι:=Nat) (λk=>aU [(0,.d (.sl (l.map aT))),(3,.ow 3 0 (rN l k).length),(4,.d (aT k))]) (λk=>aL [(3,.row false 1 ((rN l k).map bD))]) (λk=>k<=l.length) (λk=>l.length-k) 0 (aC hp [0,3,4] [(7,3)] (by simp[pO]) (by simp[pO])) (Nat.zero_le _) λk hi3=>?_;refine aB ?_;refine aA ?_;simp;refine aD ?_;simp;refine⟨λh3=>?_,λh3=>?_⟩
 ·refine aH ?_;simp;refine aB ?_;refine aF ?_;have hk:k<l.length:=by omega
  have hb1:=wY (l:=l) (k:=k) (by omega);have hb2:=fF l[k];have k1:=wU l[k] (hr _ (List.getElem_mem hk));have htk:List.take (rN l k).length ((rN l k).map bD)=(rN l k).map bD:=List.take_of_length_le (by simp);refine eG.ro hT hW (λ|19=>some<| .plain ⟨.own 1 ((eK l[k]).map bD),true⟩|_=>none) ?_;simp[hk,htk];refine⟨⟨by exact k1,λ_ _=>rfl,by omega⟩,?_⟩;refine aG ?_;simp;refine⟨by omega,?_⟩;refine aI (k+1) (aC hp [0,3,4] [(20,3)] (by simp[pP hk]) (by simp[pP hk])) ?_ ?_
  ·omega
  ·omega
 ·refine aO ?_;simp;refine aA ?_;simp;refine aN ?_;have hk:k=l.length:=by omega
  subst hk;rw[BH];simp;intro x hx c hc;simp[bD,aK]at hc;subst hc;rfl
end
theorem pQ:∀(f m k:Nat),m<256^k->(k=0\/256^(k-1)<=m)->k<=f->(cW f m).length=k
 |0,m,k,_,_,hk=>by have:k=0:=by omega
                   subst this;rfl
 |f+1,m,0,h,_,_=>by simp at h;subst h;simp[cW]
 |f+1,m,k+1,h,h1,hk=>by
  have hp:0<256^k:=Nat.pow_pos (by decide);have h1':256^k<=m:=by rcases h1 with h1|h1;omega;simpa using h1
  unfold cW;rw[if_neg (by omega),List.length_cons,pQ f (m / 256) k ?_ ?_ (by omega)]
  ·rw[Nat.pow_succ]at h;omega
  ·cases k with
   |zero=>exact .inl rfl
   |succ k=>right;simp only[Nat.add_sub_cancel];rw[Nat.pow_succ]at h1';omega
theorem BI:∀(f m i:Nat),i<(cW f m).length->(cW f m)[i]? =some (m / 256^i%256)
 |0,_,_,h=>by simp[cW]at h
 |f+1,m,i,h=>by
  unfold cW at h|-;split
  ·rename_i h0;rw[if_pos h0]at h;simp at h
  ·rename_i h0;rw[if_neg h0]at h;cases i with
   |zero=>simp
   |succ i=>
    rw[List.getElem?_cons_succ,BI f (m / 256) i (by simpa using h),Nat.div_div_eq_div_mul,Nat.pow_succ,Nat.mul_comm]
theorem NP{n:Int}(h1: -9223372036854775808<=n)(h2:n<0):IntKind.u64.wrap (BitVec.ofInt 64 IntKind.u64.max^^^BitVec.ofInt 64 (IntKind.u64.wrap n)).toNat= -1-n:=by
 have e1:BitVec.ofInt 64 IntKind.u64.max=BitVec.allOnes 64:=by decide
 have e2:IntKind.u64.wrap n=n+18446744073709551616:=by
  unfold IntKind.wrap;simp[IntKind.bits,IntKind.signed];omega
 rw[e1,BitVec.allOnes_xor,BitVec.toNat_not,e2,BitVec.toNat_ofInt];unfold IntKind.wrap;simp[IntKind.bits,IntKind.signed];omega
theorem Pi{n:Int}(h1:0<=n)(h2:n<=9223372036854775807):IntKind.u64.wrap n=n:=by
 unfold IntKind.wrap;simp[IntKind.bits,IntKind.signed];omega
set_option maxRecDepth 100000 in
theorem FQ:∀x:Nat,x<256->IntKind.u8.wrap (BitVec.ofInt IntKind.u8.bits (x:Int)^^^BitVec.ofInt IntKind.u8.bits 0).toNat=(x:Int):=by decide
set_option maxRecDepth 100000 in
theorem Is:∀x:Nat,x<256->IntKind.u8.wrap (BitVec.ofInt IntKind.u8.bits (x:Int)^^^BitVec.ofInt IntKind.u8.bits 255).toNat=((255-x:Nat):Int):=by decide
theorem MI(x:Nat):IntKind.u8.wrap (x:Int)=((x%256:Nat):Int):=by
 unfold IntKind.wrap;simp[IntKind.bits,IntKind.signed]
theorem Ag(M i:Nat)(h:i<8):(M:Int).fdiv (2^min (8*(i:Int)).toNat IntKind.u64.bits)=((M / 256^i:Nat):Int):=by
 show(M:Int).fdiv (2^min (8*(i:Int)).toNat 64)=((M / 256^i:Nat):Int);have e:(2:Int)^(8*i)=((256^i:Nat):Int):=by
  rw[Int.pow_mul,Int.natCast_pow];rfl
 rw[show min (8*(i:Int)).toNat 64=8*i by omega,e,Int.fdiv_eq_ediv_of_nonneg _ (Int.natCast_nonneg _),Int.natCast_ediv]
section
attribute[local simp] bA bW aQ aZ
attribute[local simp] iO.cond
theorem MJ(n:Int)(hn:0<=n)(h:vE n):Ok Tryz.prog 59 [aT n] ⟨.own 1 ((eK n).map bD),true⟩:=by
 refine bE Tryz.func59 rfl Tryz.ntmps59 Tryz.results59 λw0 X hp=>?_;have hlt:=tS h;have habs:(fS n:Int)=n:=by unfold fS;rw[if_neg (by omega)];omega
 have hE:eK n=(128+(cW 8 (fS n)).length)::(cW 8 (fS n)).reverse:=by unfold eK;rw[if_neg (by omega)];simp[show¬n<0 by omega]
 have hdl:=qZ 8 (fS n);obtain⟨h1,h2⟩:=h;obtain⟨M,hM⟩:∃M,M=fS n:=⟨_,rfl⟩;rw[<-hM]at habs hlt hE hdl;refine aA ?_;simp;refine eG.scope ?_;refine aA ?_;simp[Pi hn h2];refine aB ?_;refine aA ?_;simp;refine aD ?_;simp[(show¬n<0 by omega)];refine aH ?_;simp;refine aA ?_;simp;refine aB ?_;refine eG.label ?_;simp;refine AX (ι:=Nat×Int) (λ⟨k,fl⟩=>aU [(3,.d (.int .u64 (M:Int))),(4,.d (.int .u8 fl)),(5,.d (aT k))]) (λ⟨k,fl⟩=>aL []) (λ⟨k,fl⟩=>(cW 8 M).length=k/\k<=8/\fl=0) ?_ λ⟨k,fl⟩ hc8=>?_
 ·refine aF ?_;refine aJ (ι:=Nat) (λk=>aU [(3,.d (.int .u64 (M:Int))),(4,.d (.int .u8 0)),(5,.d (aT k))]) (λk=>aL []) (λk=>k<=8/\M<256^k) (λk=>k) 8 (aC hp [3,4,5] [] (by simp[habs])) (⟨Nat.le_refl _,hlt⟩) λk hi5=>?_;refine aB ?_;refine aA ?_;simp;refine aD ?_;simp;refine⟨λh5=>?_,λh5=>?_⟩
  ·refine aH ?_;simp;refine aF ?_;refine aB ?_;refine aB ?_;have hk0:0<k:=by omega
   obtain⟨i,hi⟩:∃i,k=i+1:=⟨k-1,by omega⟩;have hi8:i<8:=by omega
   have hsh:=Ag M i hi8;obtain⟨D,hD⟩:∃D,D=M / 256^i:=⟨_,rfl⟩;rw[<-hD]at hsh;have hkm:((k:Int)- 1)=(i:Int):=by omega
   refine aG ?_;simp[hkm,hsh];refine⟨by omega,?_⟩;refine aD ?_;simp;refine⟨λh6=>?_,λh6=>?_⟩
   ·refine aO ?_;simp;refine zX (k,0) (aC hp [3,4,5] []) ?_;refine⟨pQ 8 M k hi5.2 (.inr ?_) hi5.1,hi5.1,rfl⟩;subst hi;have h6':0<M / 256^i:=by rw[<-hD];omega
    rw[Nat.add_sub_cancel];exact(Nat.le_div_iff_mul_le (Nat.pow_pos (by decide))).1 h6' |> λh=>by simpa using h
   ·refine aH ?_;simp;refine aG ?_;simp;refine⟨by omega,?_⟩;refine aI (k-1) (aC hp [3,4,5] [] (by simp[show((k-1:Nat):Int)=(k:Int)- 1 by omega])) ?_ ?_
    ·refine⟨by omega,?_⟩;rw[show k-1=i by omega];have h6':M / 256^i<1:=by rw[<-hD];omega
     simpa using(Nat.div_lt_iff_lt_mul (Nat.pow_pos (by decide))).1 h6'
    ·omega
  ·refine aO ?_;simp;refine zX (k,0) (aC hp [3,4,5] []) ?_;exact⟨pQ 8 M k hi5.2 (.inl (by omega)) hi5.1,hi5.1,rfl⟩
 ·refine aB ?_;obtain⟨c1,c2,c3⟩:=hc8;have hw2:IntKind.u8.wrap (128+(k:Int))=128+(k:Int):=mJ (by omega) (by omega);have hx:=FQ (128+k) (by omega);rw[<-c3]at hx;rw[show((128+k:Nat):Int)=128+(k:Int)by omega]at hx;simp at hx;refine aG ?_;simp[hw2,hx];refine⟨by omega,?_⟩;refine aB ?_;refine aA ?_;simp;refine⟨by omega,?_⟩;refine aF ?_;refine aJ (ι:=Nat) (λj=>aU [(3,.d (.int .u64 (M:Int))),(4,.d (.int .u8 fl)),(6,.ow 6 0 (j+1)),(7,.d (aT ((k:Int)- 1-(j:Int))))]) (λj=>aL [(6,.row false 1 (wS (128+k) (cW 8 M).reverse j))]) (λj=>j<=k) (λj=>k-j) 0 (aC hp [3,4,6,7] [(29,6)] (hH:=by simp[bD,tU])) (Nat.zero_le _) λj hi10=>?_;refine aB ?_;refine aA ?_;simp;refine aD ?_;simp;refine⟨λh10=>?_,λh10=>?_⟩
  ·refine aH ?_;simp;refine aB ?_;refine aF ?_;have hj:j<k:=by omega
   have hix:(k:Int)- 1-(j:Int)=((k-1-j:Nat):Int):=(by omega);have hsh:=Ag M (k-1-j) (by omega);have hlr:(cW 8 M).reverse.length=k:=by rw[List.length_reverse];exact c1
   have hsc:=tV (hd:=128+k) (L:=(cW 8 M).reverse) (j:=j) (by omega);have hgt:(cW 8 M).reverse[j]'(by omega)=M / 256^(k-1-j)%256:=by
    have h:=BI 8 M (k-1-j) (by omega);rw[List.getElem_reverse];rw[List.getElem?_eq_getElem (by omega)]at h;simp only[c1];exact Option.some.inj h
   rw[hgt]at hsc;have hu:=MI (M / 256^(k-1-j));have hx:=FQ (M / 256^(k-1-j)%256) (Nat.mod_lt _ (by decide));rw[<-c3]at hx;obtain⟨D,hD⟩:∃D,D=M / 256^(k-1-j):=⟨_,rfl⟩;rw[<-hD]at hsh hu hx hsc;obtain⟨D2,hD2⟩:∃D2,D2=D%256:=⟨_,rfl⟩;rw[<-hD2]at hu hx hsc;simp at hx;have htk2:=jR (hd:=128+k) (L:=(cW 8 M).reverse) (j:=j) (by omega);have hln2:=kG (hd:=128+k) (L:=(cW 8 M).reverse) (j:=j) (by omega);refine aG ?_;simp[hix,hsh,hu,hx,htk2,hln2];refine⟨by omega,?_⟩;refine aG ?_;simp;refine⟨by omega,?_⟩;refine aI (j+1) (aC hp [3,4,6,7] [(45,6)] (by simp[show((k-1-j:Nat):Int)- 1=(k:Int)- 1-((j:Int)+1)by omega]) (by simp[hsc,bD])) ?_ ?_
   ·omega
   ·omega
  ·refine aO ?_;simp;refine aA ?_;simp;refine aN ?_;have hj:j=k:=by omega
   subst hj;have hlr:(cW 8 M).reverse.length=j:=by rw[List.length_reverse];exact c1
   have hln2:=kG (hd:=128+j) (L:=(cW 8 M).reverse) (j:=j) (by omega);have htk2:=jR (hd:=128+j) (L:=(cW 8 M).reverse) (j:=j) (by omega);rw[hE,c1,<-wT (hd:=128+j) (L:=(cW 8 M).reverse) (j:=j) (by omega)];simp[hln2,htk2];intro x hx c hc;obtain⟨y,_,rfl⟩:=List.mem_map.1 hx;simp[bD,aK]at hc;subst hc;rfl
end
section
attribute[local simp] bA bW aQ aZ
attribute[local simp] iO.cond
theorem MK(n:Int)(hn:n<0)(h:vE n):Ok Tryz.prog 59 [aT n] ⟨.own 1 ((eK n).map bD),true⟩:=by
 refine bE Tryz.func59 rfl Tryz.ntmps59 Tryz.results59 λw0 X hp=>?_;have hlt:=tS h;have habs:(fS n:Int)= -1-n:=by unfold fS;rw[if_pos hn];omega
 have hE:eK n=(127-(cW 8 (fS n)).length)::((cW 8 (fS n)).map (λd=>255-d)).reverse:=by unfold eK;rw[if_pos hn];simp[hn]
 have hdl:=qZ 8 (fS n);obtain⟨h1,h2⟩:=h;obtain⟨M,hM⟩:∃M,M=fS n:=⟨_,rfl⟩;rw[<-hM]at habs hlt hE hdl;refine aA ?_;simp;refine eG.scope ?_;refine aA ?_;simp;refine aB ?_;refine aA ?_;simp;refine aD ?_;simp[hn];have hcq:=NP h1 hn;simp at hcq;have hcp:IntKind.u64.wrap ((((if IntKind.u64.signed=true then -1 else IntKind.u64.max)%2^IntKind.u64.bits).toNat^^^(IntKind.u64.wrap n%2^IntKind.u64.bits).toNat:Nat):Int)= -1-n:=by
  rw[if_neg (by decide),show(2:Int)^IntKind.u64.bits=18446744073709551616 by rfl];exact hcq
 refine aG ?_;simp[hcp];refine aA ?_;simp;refine aB ?_;refine eG.label ?_;simp;refine AX (ι:=Nat×Int) (λ⟨k,fl⟩=>aU [(3,.d (.int .u64 (M:Int))),(4,.d (.int .u8 fl)),(5,.d (aT k))]) (λ⟨k,fl⟩=>aL []) (λ⟨k,fl⟩=>(cW 8 M).length=k/\k<=8/\fl=255) ?_ λ⟨k,fl⟩ hc8=>?_
 ·refine aF ?_;refine aJ (ι:=Nat) (λk=>aU [(3,.d (.int .u64 (M:Int))),(4,.d (.int .u8 255)),(5,.d (aT k))]) (λk=>aL []) (λk=>k<=8/\M<256^k) (λk=>k) 8 (aC hp [3,4,5] [] (by simp[habs])) (⟨Nat.le_refl _,hlt⟩) λk hi5=>?_;refine aB ?_;refine aA ?_;simp;refine aD ?_;simp;refine⟨λh5=>?_,λh5=>?_⟩
  ·refine aH ?_;simp;refine aF ?_;refine aB ?_;refine aB ?_;have hk0:0<k:=by omega
   obtain⟨i,hi⟩:∃i,k=i+1:=⟨k-1,by omega⟩;have hi8:i<8:=by omega
   have hsh:=Ag M i hi8;obtain⟨D,hD⟩:∃D,D=M / 256^i:=⟨_,rfl⟩;rw[<-hD]at hsh;have hkm:((k:Int)- 1)=(i:Int):=by omega
   refine aG ?_;simp[hkm,hsh];refine⟨by omega,?_⟩;refine aD ?_;simp;refine⟨λh6=>?_,λh6=>?_⟩
   ·refine aO ?_;simp;refine zX (k,255) (aC hp [3,4,5] []) ?_;refine⟨pQ 8 M k hi5.2 (.inr ?_) hi5.1,hi5.1,rfl⟩;subst hi;have h6':0<M / 256^i:=by rw[<-hD];omega
    rw[Nat.add_sub_cancel];exact(Nat.le_div_iff_mul_le (Nat.pow_pos (by decide))).1 h6' |> λh=>by simpa using h
   ·refine aH ?_;simp;refine aG ?_;simp;refine⟨by omega,?_⟩;refine aI (k-1) (aC hp [3,4,5] [] (by simp[show((k-1:Nat):Int)=(k:Int)- 1 by omega])) ?_ ?_
    ·refine⟨by omega,?_⟩;rw[show k-1=i by omega];have h6':M / 256^i<1:=by rw[<-hD];omega
     simpa using(Nat.div_lt_iff_lt_mul (Nat.pow_pos (by decide))).1 h6'
    ·omega
  ·refine aO ?_;simp;refine zX (k,255) (aC hp [3,4,5] []) ?_;exact⟨pQ 8 M k hi5.2 (.inl (by omega)) hi5.1,hi5.1,rfl⟩
 ·refine aB ?_;obtain⟨c1,c2,c3⟩:=hc8;have hw2:IntKind.u8.wrap (128+(k:Int))=128+(k:Int):=mJ (by omega) (by omega);have hx:=Is (128+k) (by omega);rw[<-c3]at hx;rw[show((128+k:Nat):Int)=128+(k:Int)by omega,show 255-(128+k)=127-k by omega]at hx;simp at hx;refine aG ?_;simp[hw2,hx];refine⟨by omega,?_⟩;refine aB ?_;refine aA ?_;simp;refine⟨by omega,?_⟩;refine aF ?_;refine aJ (ι:=Nat) (λj=>aU [(3,.d (.int .u64 (M:Int))),(4,.d (.int .u8 fl)),(6,.ow 6 0 (j+1)),(7,.d (aT ((k:Int)- 1-(j:Int))))]) (λj=>aL [(6,.row false 1 (wS (127-k) ((cW 8 M).map (λd=>255-d)).reverse j))]) (λj=>j<=k) (λj=>k-j) 0 (aC hp [3,4,6,7] [(29,6)] (hH:=by simp[bD,tU])) (Nat.zero_le _) λj hi10=>?_;refine aB ?_;refine aA ?_;simp;refine aD ?_;simp;refine⟨λh10=>?_,λh10=>?_⟩
  ·refine aH ?_;simp;refine aB ?_;refine aF ?_;have hj:j<k:=by omega
   have hix:(k:Int)- 1-(j:Int)=((k-1-j:Nat):Int):=(by omega);have hsh:=Ag M (k-1-j) (by omega);have hlr:((cW 8 M).map (λd=>255-d)).reverse.length=k:=by rw[List.length_reverse,List.length_map];exact c1
   have hsc:=tV (hd:=127-k) (L:=((cW 8 M).map (λd=>255-d)).reverse) (j:=j) (by omega);have hgt:((cW 8 M).map (λd=>255-d)).reverse[j]'(by omega)=255-M / 256^(k-1-j)%256:=by
    have h:=BI 8 M (k-1-j) (by omega);rw[List.getElem_reverse,List.getElem_map];rw[List.getElem?_eq_getElem (by omega)]at h;simp only[List.length_map,c1];rw[Option.some.inj h]
   rw[hgt]at hsc;have hu:=MI (M / 256^(k-1-j));have hx:=Is (M / 256^(k-1-j)%256) (Nat.mod_lt _ (by decide));rw[<-c3]at hx;obtain⟨D,hD⟩:∃D,D=M / 256^(k-1-j):=⟨_,rfl⟩;rw[<-hD]at hsh hu hx hsc;obtain⟨D2,hD2⟩:∃D2,D2=D%256:=⟨_,rfl⟩;rw[<-hD2]at hu hx hsc;simp at hx;have htk2:=jR (hd:=127-k) (L:=((cW 8 M).map (λd=>255-d)).reverse) (j:=j) (by omega);have hln2:=kG (hd:=127-k) (L:=((cW 8 M).map (λd=>255-d)).reverse) (j:=j) (by omega);refine aG ?_;simp[hix,hsh,hu,hx,htk2,hln2];refine⟨by omega,?_⟩;refine aG ?_;simp;refine⟨by omega,?_⟩;refine aI (j+1) (aC hp [3,4,6,7] [(45,6)] (by simp[show((k-1-j:Nat):Int)- 1=(k:Int)- 1-((j:Int)+1)by omega]) (by simp[hsc,bD])) ?_ ?_
   ·omega
   ·omega
  ·refine aO ?_;simp;refine aA ?_;simp;refine aN ?_;have hj:j=k:=by omega
   subst hj;have hlr:((cW 8 M).map (λd=>255-d)).reverse.length=j:=by rw[List.length_reverse,List.length_map];exact c1
   have hln2:=kG (hd:=127-j) (L:=((cW 8 M).map (λd=>255-d)).reverse) (j:=j) (by omega);have htk2:=jR (hd:=127-j) (L:=((cW 8 M).map (λd=>255-d)).reverse) (j:=j) (by omega);rw[hE,c1,<-wT (hd:=127-j) (L:=((cW 8 M).map (λd=>255-d)).reverse) (j:=j) (by omega)];simp[hln2,htk2];intro x hx c hc;obtain⟨y,_,rfl⟩:=List.mem_map.1 hx;simp[bD,aK]at hc;subst hc;rfl
theorem Ah(n:Int)(h:vE n):Ok Tryz.prog 59 [aT n] ⟨.own 1 ((eK n).map bD),true⟩:=by
 rcases Int.lt_or_le n 0 with q|q
 ·exact MK n q h
 ·exact MJ n q h
end
section
attribute[local simp] iC iD jZ iE gH kA iF iG mI kB kC kD kE iR
attribute[local simp] mK lJ kI rA kJ kK fG iO.cond fA Dg dV iB mL mM iH rE rF rC iI iT nU kM kN rG rH mN kO kP tC tD oO oW jS
def zS:List LV:=cM ⟨⟨0,0,0,0,0,0,0,0⟩,List.replicate 64 0,0⟩
theorem NQ:zS=List.replicate 8 (.d (.int .u32 0))++List.replicate 64 (.d (.int .u8 0))++[.d (.int .u64 0)]:=rfl
theorem ML(σ:List (Nat×Nat)):zS.map (ren σ 8)=zS:=iT _ _
theorem MM:zS.length=73:=fE rfl
theorem MN:Ok Tryz.prog 55 [] ⟨.d (.agg (iM qY)),true⟩:=by
 refine sI Tryz.func55 rfl Tryz.ntmps55 Tryz.results55 λw0 X hp=>?_;refine aA ?_;simp;refine aA ?_;simp[aQ];refine aN ?_;simp;rfl
theorem CW(s:dO)(hl:s.length<=1000000):Ok Tryz.prog 57 [.str s] ⟨.own 1 ((jC s).map bD),true⟩:=by
 refine bE Tryz.func57 rfl Tryz.ntmps57 Tryz.results57 λw0 X hp=>?_;refine aA ?_;simp;refine aB ?_;have hb:=fF (s.length:Int);have hte:List.take (eK s.length).length ((eK s.length).map bD)=(eK s.length).map bD:=List.take_of_length_le (by simp);refine eG.ro hT hW (λ|5=>some<| .plain ⟨.own 1 ((eK s.length).map bD),true⟩|_=>none) ?_;simp[hte];refine⟨⟨Ah _ (rK (by omega)),by omega⟩,?_⟩;refine aN ?_;have hl2:=kL s;have e:(eK s.length).map bD++s.map (λb=>DV.int .u8 b.toNat)=(jC s).map bD:=by simp[jC,bD]
 simp[hl2,e];refine⟨List.take_of_length_le (by simp[hl2]),?_⟩;intro x hx c hc;simp[bD,aK]at hc;subst hc;rfl
theorem HJ(st:fQ)(x:dO)(hB:st.B.length=64)(hn:st.n+x.length<1099511627776):Ok Tryz.prog 56 [.agg (iM st),.str x] ⟨.d (.agg (iM (tB st x))),true⟩:=by
 refine sI Tryz.func56 rfl Tryz.ntmps56 Tryz.results56 λw0 X hp=>?_;refine aA ?_;simp;refine aB ?_;refine aF ?_;refine aJ (ι:=fQ×dO) (λ⟨p,y⟩=>aU [(1,.d (.str y)),(2,.bx 2 0),(4,.bx 4 0)]) (λ⟨p,y⟩=>aL [(2,.box false (cM p)),(4,.box false zS)]) (λ⟨p,y⟩=>p.B.length=64/\tB p y=tB st x/\p.n+y.length=st.n+x.length) (λ⟨p,y⟩=>y.length) (st,x) (aC hp [1,2,4] [(2,2),(4,4)] (hH:=by simp[NQ])) (⟨hB,rfl,rfl⟩) λ⟨p,y⟩ hi1=>?_;refine aB ?_;refine aA ?_;simp;refine aD ?_;simp;refine⟨λh1=>?_,λh1=>?_⟩
 ·refine aH ?_;simp;refine aF ?_;refine aB ?_;obtain⟨i1,i2,i3⟩:=hi1;have hln:=fE i1;have hgn:=HI (HH i1);have hmod:((p.n:Int)).tmod 64=((p.n%64:Nat):Int):=by rw[Int.tmod_eq_emod_of_nonneg (by omega)];omega
  obtain⟨r,hr⟩:∃r,r=p.n%64:=⟨_,rfl⟩;have hr64:r<64:=by omega
  rw[<-hr]at hmod;have hri:=CR (n:=r) (by omega);have hru:=lE (n:=r) (by omega);refine aG ?_;simp[hln,hgn,hmod,hri,hru];refine aB ?_;have hsl:((64:Int)-(r:Int)).toNat=64-r:=by omega
  have hpB:=JS i1 (k:=r) (y:=y.take (64-r)) (by rw[List.length_take];omega);have hB2:(aQ r p.B (y.take (64-r))).length=64:=by rw[yE (by rw[List.length_take,i1];omega),i1]
  refine aG ?_;simp[hln,hsl,hpB];refine⟨by omega,?_⟩;refine aB ?_;have hroom:fI p y=min y.length (64-r):=by unfold fI;rw[<-hr]
  have hle:fI p y<=y.length:=by omega
  obtain⟨k,hk⟩:∃k,k=fI p y:=⟨_,rfl⟩;rw[<-hk]at hroom hle;refine aG ?_;simp[<-hroom];refine⟨by omega,?_⟩;refine aB ?_;have hln2:=fE (st:=⟨p.s,aQ r p.B (y.take (64-r)),p.n⟩) hB2;have hgn2:=HI (HH (st:=⟨p.s,aQ r p.B (y.take (64-r)),p.n⟩) hB2);have hku:=lE (n:=k) (by omega);have hnu:=lE (n:=p.n+k) (by omega);rw[show((p.n+k:Nat):Int)=(p.n:Int)+(k:Int)by omega]at hnu;have hpN:=JT (st:=⟨p.s,aQ r p.B (y.take (64-r)),p.n⟩) hB2 (p.n+k);rw[show((p.n+k:Nat):Int)=(p.n:Int)+(k:Int)by omega]at hpN;refine aG ?_;simp[hln2,hgn2,hku,hnu,hpN];refine aA ?_;simp;refine⟨by omega,?_⟩;refine aD ?_;simp;refine⟨λh6=>?_,λh6=>?_⟩
  ·have hln3:=fE (st:=⟨p.s,aQ r p.B (y.take (64-r)),p.n+k⟩) hB2;have hss:=Pe ⟨p.s,aQ r p.B (y.take (64-r)),p.n+k⟩;have hpS:=JU ⟨p.s,aQ r p.B (y.take (64-r)),p.n+k⟩ (comp p.s (aQ r p.B (y.take (64-r))));refine bI [] [[],[],[],[],[2],[],[2]] (λ|35=>some (.gen ⟨[(2,0)],[],[],[(0,.box false (cM ⟨p.s,aQ r p.B (y.take (64-r)),p.n+k⟩))],.d (.agg (Ea (comp p.s (aQ r p.B (y.take (64-r))))))⟩)|_=>none) ?_;simp[hln3,hss,hpS,wW,Eb];refine⟨FP ⟨p.s,aQ r p.B (y.take (64-r)),p.n+k⟩ p.s hB2,?_⟩;have hst:rJ p y=⟨comp p.s (aQ r p.B (y.take (64-r))),aQ r p.B (y.take (64-r)),p.n+k⟩:=by unfold rJ;rw[<-hr,<-hk,if_pos (by omega)]
   refine aI (rJ p y,y.drop (fI p y)) (aC hp [1,2,4] [(2,2),(4,4)] (by simp[<-hk]) (by simp[hst,ML])) ?_ ?_
   ·refine⟨Mi i1 y,(CS h1).trans i2,?_⟩;show p.n+fI p y+(y.drop (fI p y)).length=_;rw[List.length_drop,<-hk];omega
   ·show(y.drop (fI p y)).length<y.length;have:=sZ (st:=p) h1;rw[List.length_drop];omega
  ·refine aH ?_;simp;have hst:rJ p y=⟨p.s,aQ r p.B (y.take (64-r)),p.n+k⟩:=by unfold rJ;rw[<-hr,<-hk,if_neg (by omega)]
   refine aI (rJ p y,y.drop (fI p y)) (aC hp [1,2,4] [(2,2),(4,4)] (by simp[<-hk]) (by simp[hst,ML])) ?_ ?_
   ·refine⟨Mi i1 y,(CS h1).trans i2,?_⟩;show p.n+fI p y+(y.drop (fI p y)).length=_;rw[List.length_drop,<-hk];omega
   ·show(y.drop (fI p y)).length<y.length;have:=sZ (st:=p) h1;rw[List.length_drop];omega
 ·refine aO ?_;simp;refine aB ?_;obtain⟨i1,i2,i3⟩:=hi1;subst h1;rw[Mj]at i2;have hln:=fE i1;have hall:=wR i1;have hDl:=mT i1;have hpw:aQ 0 zS (cM p)=cM p:=cA (by rw[MM,hln];exact Nat.le_refl _);refine aG ?_;simp[hln,hall,hDl,hpw,MM];refine aN ?_;subst i2;simp[hln,hall];intro c hc;obtain⟨k,n,rfl⟩:=Mt _ c hc;rfl
theorem NR(st:fQ)(m:dO)(hH:sY m st)(hm:m.length<549755813888):Ok Tryz.prog 58 [.agg (iM st)] ⟨.d (.agg (cN (lD m))),true⟩:=by
 refine sI Tryz.func58 rfl Tryz.ntmps58 Tryz.results58 λw0 X hp=>?_;obtain⟨hB,hsn,_,_⟩:=id hH;have hln:=fE hB;have hgn:=HI (HH hB);obtain⟨n,hn⟩:∃n,n=m.length:=⟨_,rfl⟩;rw[<-hn]at hsn hm;have hsum:=hH.hash;have hmu:IntKind.u64.wrap (8*(n:Int))=8*(n:Int):=lE (n:=8*n) (by omega);have b128:DV.int .u8 128=dP 128:=rfl;have b0:DV.int .u8 0=dP 0:=rfl;refine aA ?_;simp;refine aA ?_;simp[hln,hgn,hsn,hmu];refine aA ?_;simp;refine aB ?_;refine aF ?_;refine aJ (ι:=Nat) (λj=>aU [(1,.bx 1 0),(2,.bx 2 0),(3,.d (.int .u64 (8*(n:Int)))),(4,.ow 4 0 (1+j))]) (λj=>aL [(1,.box false (cM st)),(2,.box false (lF st.s 0)),(4,.row false 1 ((128::List.replicate j 0).map dP))]) (λj=>j<=(119-n%64)%64) (λj=>64-j) 0 (aC hp [1,2,3,4] [(1,1),(2,2),(11,4)] (hH:=by simp[b128,b0,tX])) (Nat.zero_le _) λj hi3=>?_;refine aB ?_;refine aB ?_;have hmi:=CR (n:=n) (by omega);have hmod:((n:Int)+(1+(j:Int))).tmod 64=(((n+1+j)%64:Nat):Int):=by rw[Int.tmod_eq_emod_of_nonneg (by omega)];omega
 refine aG ?_;simp[hln,hgn,hsn,hmi,hmod];refine⟨by omega,?_⟩;refine aD ?_;simp;refine⟨λh3=>?_,λh3=>?_⟩
 ·refine aH ?_;simp;refine aF ?_;have htk:List.take (1+j) (dP 128::List.replicate j (dP 0))=dP 128::List.replicate j (dP 0):=List.take_of_length_le (by simp;omega);have hsc:List.replicate j (dP 0)++[dP 0]=List.replicate (j+1) (dP 0):=List.replicate_succ'.symm;refine aG ?_;simp;refine⟨by omega,?_⟩;refine aI (j+1) (aC hp [1,2,3,4] [(1,1),(2,2),(22,4)] (by simp[Nat.add_assoc]) (by simp[b0,htk,hsc])) ?_ ?_
  ·omega
  ·omega
 ·refine aO ?_;simp;refine aB ?_;refine aB ?_;have hj:j=(119-n%64)%64:=by omega
  refine aG ?_;simp;refine aF ?_;refine aJ (ι:=Nat) (λi=>aU [(1,.bx 1 0),(2,.bx 2 0),(3,.d (.int .u64 (8*(n:Int)))),(4,.ow 4 0 (nY n i).length),(23,.d (aT i))]) (λi=>aL [(1,.box false (cM st)),(2,.box false (lF st.s 0)),(4,.row false 1 ((nY n i).map dP))]) (λi=>i<=8) (λi=>8-i) 0 (aC hp [1,2,3,4,23] [(1,1),(2,2),(4,4)] (by simp[tY,<-hj,Nat.add_comm]) (by simp[tY,<-hj])) (Nat.zero_le _) λi hi6=>?_;refine aA ?_;simp;refine aB ?_;refine aD ?_;simp;refine⟨λh6=>?_,λh6=>?_⟩
  ·refine aH ?_;simp;refine aB ?_;refine aF ?_;refine aA ?_;simp;have hsb:=FN (8*n) (i:=i) (by omega);have htk:List.take (nY n i).length ((nY n i).map dP)=(nY n i).map dP:=List.take_of_length_le (by simp);rw[show((8*n:Nat):Int)=8*(n:Int)by omega]at hsb;have hu8:DV.int .u8 (IntKind.u8.wrap (8*(n:Int) / 256^(7-i)))=dP (UInt8.ofNat (8*n / 256^(7-i))):=by rw[<-Ir];simp
   have hpl:=wX n (i:=i) (by omega);refine aG ?_;simp[hsb,htk];refine⟨by omega,?_⟩;refine aG ?_;simp;refine⟨by omega,?_⟩;refine aI (i+1) (aC hp [1,2,3,4,23] [(1,1),(2,2),(34,4)] (by simp[tZ n (show i<8 by omega)]) (by simp[tZ n (show i<8 by omega),hu8])) ?_ ?_
   ·omega
   ·omega
  ·refine aO ?_;simp;refine aB ?_;have hi:i=8:=by omega
   subst hi;rw[tE];have hall:=wR hB;have hDl:=mT hB;have hpl:=wX n (i:=8) (by omega);rw[tE]at hpl;have htk:List.take (nR n).length ((nR n).map dP)=(nR n).map dP:=List.take_of_length_le (by simp);have hmb:=PP (nR n);have hAdd:=HJ st (nR n) hB (by omega);rw[hsn]at hsum;obtain⟨q,hq⟩:∃q,q=tB st (nR n):=⟨_,rfl⟩;rw[<-hq]at hsum hAdd;have hqB:q.B.length=64:=by rw[hq];exact(vF hH _).1
   have hql:=fE hqB;have hqD:=mT hqB;have hpw:aQ 0 (cM st) (cM q)=cM q:=cA (by rw[hln,hql];exact Nat.le_refl _);refine eG.ro hT hW (λ|39=>some<| .plain ⟨.d (.agg (iM q)),true⟩|_=>none) ?_;simp[hln,hall,htk,hmb,hqD,hql,hpw];refine⟨⟨λ_ _=>⟨_,rfl⟩,hAdd⟩,?_⟩;refine aA ?_;simp;refine aB ?_;refine aA ?_;simp;refine aF ?_;refine aJ (ι:=Nat) (λi=>aU [(1,.bx 1 0),(2,.bx 2 0),(6,.bx 6 0),(40,.d (aT i))]) (λi=>aL [(1,.box false (cM q)),(2,.box false (lF st.s 0)),(6,.box false (lF q.s i))]) (λi=>i<=32) (λi=>32-i) 0 (aC hp [1,2,6,40] [(1,1),(2,2),(6,6)] (hH:=by simp[tX,b0])) (Nat.zero_le _) λi hi13=>?_;refine aA ?_;simp;refine aB ?_;refine aD ?_;simp;refine⟨λh13=>?_,λh13=>?_⟩
   ·refine aH ?_;simp;refine aB ?_;refine aF ?_;refine aA ?_;simp;have hq4:((i:Int) / 4).toNat=i / 4:=by omega
    have hr4:((i:Int)).tmod 4=(i:Int)%4:=Int.tmod_eq_emod_of_nonneg (by omega);have hsw:=Ph q (i:=i / 4) (by omega);have hsh:((24:Int)- 8*((i:Int)%4)).toNat=24-8*(i%4):=by omega
    have hol:=pN q.s (i:=i) (by omega);have hput:=FM q.s (show i<32 by omega);refine aG ?_;simp[hq4,hr4,hsw,hsh,hol,hql];refine⟨by omega,?_⟩;refine aG ?_;simp;refine⟨by omega,?_⟩;refine aI (i+1) (aC hp [1,2,6,40] [(1,1),(2,2),(6,6)] (hH:=by simp[hput])) ?_ ?_
    ·omega
    ·omega
   ·refine aO ?_;simp;refine aB ?_;have hi:i=32:=by omega
    subst hi;have hol:=pN q.s (i:=32) (by omega);have hot:List.take 32 (lF q.s 32)=lF q.s 32:=List.take_of_length_le (by rw[hol];exact Nat.le_refl _);have hoa:=FL q.s;rw[hsum]at hoa;have hma:rT (lF q.s 32)=some (cN (lD m)):=by rw[hoa];exact dT _
    have hz0:=pN st.s (i:=0) (by omega);have hdl:(cN (lD m)).length=32:=by simp[cN,kF]
    have hpw:aQ 0 (lF st.s 0) ((cN (lD m)).map LV.d)=(cN (lD m)).map LV.d:=cA (by rw[hz0,List.length_map,hdl];exact Nat.le_refl _);refine aG ?_;simp[hol,hot,hma,hz0,hdl,hpw];refine aN ?_;have htd:List.take 32 ((cN (lD m)).map LV.d)=(cN (lD m)).map LV.d:=List.take_of_length_le (by simp[hdl]);have hta:=dT (cN (lD m));simp[hdl,htd,hta];intro c hc;obtain⟨k,n,rfl⟩:=rB _ c hc;rfl
end
section
attribute[local simp] iC iD jZ iE gH kA iF iG mI kB kC kD kE iR
attribute[local simp] mK lJ kI rA kJ kK fG iO.cond fA Dg dV iB mL mM iH rE rF rC iI iT nU kM kN rG rH mN kO kP tC tD oO oW jS nS
theorem Oh(tag:Nat)(parts:List dO)(hl:parts.length<=100000)(hs:∀s∈parts,s.length<=1000000):Ok Tryz.prog 13 [aT tag,.sl (parts.map .str)] ⟨.d (.agg (cN (zR tag parts))),true⟩:=by
 refine sI Tryz.func13 rfl Tryz.ntmps13 Tryz.results13 λw0 X hp=>?_;have hw:DV.int .u8 (IntKind.u8.wrap (tag:Int))=dP (UInt8.ofNat tag):=Ir tag;have hk:∀s∈parts,(jC s).length<=1000009:=λs h=>by
  have:=hs s h;have:=fF (s.length:Int);rw[kL];omega
 have hM:∀i,(uP tag (parts.take i)).length<=200000000000:=λi=>by
  have h1:=Af tag (k:=1000009) (parts:=parts.take i) λs h=>hk s (List.mem_of_mem_take h);have h2:(parts.take i).length<=100000:=by rw[List.length_take];omega
  have h3:(parts.take i).length*1000009<=100000*1000009:=Nat.mul_le_mul h2 (Nat.le_refl _);omega
 have hD:(cN (lD (uP tag parts))).length=32:=by simp[cN,kF]
 refine aA ?_;simp;refine aB ?_;refine bI [[12,5],[5,9],[5,9],[5,9],[5,9],[5],[12,14,9]] [[9],[],[],[12],[],[14],[5],[5]] (λ|9=>some<| .plain ⟨.d (.agg (iM qY)),true⟩|14=>some<| .plain ⟨.d (.agg (iM (tB qY [UInt8.ofNat tag]))),true⟩|_=>none) ?_;simp[hw];refine⟨⟨⟨⟨MN,_,rfl⟩,HJ qY [UInt8.ofNat tag] rfl (Nat.lt_of_lt_of_le (show 1<2 by decide) (by decide))⟩,mT (mU tag parts 0 (Nat.zero_le _)).1⟩,?_⟩;refine aB ?_;refine aB ?_;have b0:DV.int .u8 0=dP 0:=rfl;have hpe:∀Z:List LV,Z.length=73->aQ 0 Z (cM (tB qY [UInt8.ofNat tag]))=cM (tB qY [UInt8.ofNat tag]):=λZ hZ=>cA (by rw[hZ,fE (st:=tB qY [UInt8.ofNat tag]) (mU tag parts 0 (Nat.zero_le _)).1];exact Nat.le_refl _);refine aG ?_;simp;refine aF ?_;refine aJ (ι:=Nat) (λi=>aU [(4,.bx 4 0),(5,.bx 5 0),(15,.d (.sl (parts.map .str))),(16,.d (aT parts.length)),(17,.d (aT i))]) (λi=>aL [(4,.box false (List.replicate 16 (.d (dP 0)))),(5,.box false (cM (Ko tag parts i)))]) (λi=>i<=parts.length) (λi=>parts.length-i) 0 (aC hp [4,5,15,16,17] [(4,4),(5,5)] (hH:=by simp[b0,Ko,hpe])) (Nat.zero_le _) λi hi3=>?_;refine aA ?_;simp;refine aB ?_;refine aD ?_;simp;refine⟨λh3=>?_,λh3=>?_⟩
 ·refine aH ?_;simp;refine aB ?_;refine aF ?_;refine aA ?_;simp[h3];have hH:=mU tag parts i (by omega);have hH2:=mU tag parts (i+1) (by omega);have hB:=hH.1;have hln:=fE hB;have hall:=wR hB;have hk1:=hk parts[i] (List.getElem_mem h3);have hs1:=hs parts[i] (List.getElem_mem h3);have htk:List.take (jC parts[i]).length ((jC parts[i]).map bD)=(jC parts[i]).map bD:=List.take_of_length_le (by simp);have hmb:=Ef (jC parts[i]);have hst:Ko tag parts (i+1)=tB (Ko tag parts i) (toS (jC parts[i])):=by rw[Ko,List.getD_eq_getElem?_getD,List.getElem?_eq_getElem h3];rfl
  have hMi:=hM i;have hA:=HJ (Ko tag parts i) (toS (jC parts[i])) hB (by rw[hH.2.1,tW];omega);rw[<-hst]at hA;have hln2:=fE hH2.1;have hD2:=mT hH2.1;have hpw:aQ 0 (cM (Ko tag parts i)) (cM (Ko tag parts (i+1)))=cM (Ko tag parts (i+1)):=cA (by rw[hln,hln2];exact Nat.le_refl _);refine bI [[23]] [[],[],[23],[],[25],[5]] (λ|23=>some<| .plain ⟨.own 1 ((jC parts[i]).map bD),true⟩|25=>some<| .plain ⟨.d (.agg (iM (Ko tag parts (i+1)))),true⟩|_=>none) ?_;simp[h3,htk,hmb,hln,hall,hln2,hD2];refine⟨⟨⟨CW _ hs1,λ_ _=>⟨_,rfl⟩⟩,hA⟩,?_⟩;refine aG ?_;simp;refine⟨by omega,?_⟩;refine aI (i+1) (aC hp [4,5,15,16,17] [(4,4),(5,5)] (hH:=by simp[hpw])) ?_ ?_
  ·omega
  ·omega
 ·refine aO ?_;simp;refine aB ?_;have hi:i=parts.length:=by omega
  subst hi;have hH:=mU tag parts parts.length (Nat.le_refl _);have hMi:=hM parts.length;rw[List.take_length]at hH hMi;have hln:=fE hH.1;have hall:=wR hH.1;have hpz:∀Z:List LV,Z.length<=32->aQ 0 Z ((cN (lD (uP tag parts))).map LV.d)=(cN (lD (uP tag parts))).map LV.d:=λZ hZ=>cA (by rw[List.length_map,hD];exact hZ);refine eG.ro hT hW (λ|28=>some<| .plain ⟨.d (.agg (cN (lD (uP tag parts)))),true⟩|_=>none) ?_;simp[hln,hall,hD,hpz];refine⟨NR _ _ hH (by omega),?_⟩;refine aB ?_;have hDL:((cN (lD (uP tag parts))).map LV.d).length=32:=by rw[List.length_map,hD]
  have ht16:List.take 16 ((cN (lD (uP tag parts))).map LV.d)=(cN (zR tag parts)).map LV.d:=by simp[cN,zR]
  have had:=dT (cN (zR tag parts));have hD16:(cN (zR tag parts)).length=16:=by simp[cN,tT]
  have hpz:∀Z:List LV,Z.length<=16->aQ 0 Z ((cN (zR tag parts)).map LV.d)=(cN (zR tag parts)).map LV.d:=λZ hZ=>cA (by rw[List.length_map,hD16];exact hZ);refine aG ?_;simp[hD,ht16,had,hD16,hpz];refine aN ?_;have htd:List.take 16 ((cN (zR tag parts)).map LV.d)=(cN (zR tag parts)).map LV.d:=List.take_of_length_le (by simp[hD16]);simp[hD16,htd,had];intro c hc;obtain⟨k,n,rfl⟩:=rB _ c hc;rfl
end
section
attribute[local simp] iC iD jZ iE gH kA iF iG mI kB kC kD kE iR
attribute[local simp] mK lJ kI rA kJ kK fG iO.cond fA Dg dV iB mL mM iH rE rF rC iI iT nU kM kN rG rH mN kO kP tC tD oO oW jS nS
theorem MO:Kq=wD KS:=by rfl
theorem lK(x:BitVec 32)(k:Nat)(hk:k<=32):Ok Tryz.prog 266 [dF x,aT k] ⟨.d (dF (uO x k)),true⟩:=by
 refine bE Tryz.func266 rfl Tryz.ntmps266 Tryz.results266 λw0 X hp=>?_;refine aA ?_;simp;refine aB ?_;have e:((32:Int)-(k:Int)).toNat=32-k:=by omega
 refine bI [] [] (λ_=>none) ?_;simp[e];refine⟨by omega,?_⟩;refine aN ?_;simp[dF,uO]
theorem Kc(m:dO)(hm:m.length<=16000000):Ok Tryz.prog 264 [.sl (m.map dP)] ⟨.own 1 ((m++nR m.length).map dP),true⟩:=by
 refine bE Tryz.func264 rfl Tryz.ntmps264 Tryz.results264 λw0 X hp=>?_;have b128:DV.int .u8 128=dP 128:=rfl;have b0:DV.int .u8 0=dP 0:=rfl;obtain⟨n,hn⟩:∃n,n=m.length:=⟨_,rfl⟩;have hmu:IntKind.u64.wrap (8*(n:Int))=8*(n:Int):=lE (n:=8*n) (by omega);have hnu:=lE (n:=n) (by omega);have htm:List.take n (m.map dP)=m.map dP:=List.take_of_length_le (by simp[hn]);refine aA ?_;simp;refine aA ?_;simp[<-hn];refine⟨by omega,?_⟩;refine aA ?_;simp[<-hn];refine⟨by omega,?_⟩;refine aB ?_;refine aF ?_;refine aJ (ι:=Nat) (λj=>aU [(0,.d (.sl (m.map dP))),(3,.ow 3 0 (n+1+j))]) (λj=>aL [(3,.row false 1 ((m++128::List.replicate j 0).map dP))]) (λj=>j<=(119-n%64)%64) (λj=>64-j) 0 (aC hp [0,3] [(11,3)] (hH:=by simp[b128,b0,htm])) (Nat.zero_le _) λj hi3=>?_;refine aB ?_;refine aB ?_;have hmod:((n:Int)+1+(j:Int)).tmod 64=(((n+1+j)%64:Nat):Int):=by rw[Int.tmod_eq_emod_of_nonneg (by omega)];omega
 refine aG ?_;simp[hmod];refine aD ?_;simp;refine⟨λh3=>?_,λh3=>?_⟩
 ·refine aH ?_;simp;refine aF ?_;have htk:List.take (n+1+j) (m.map dP++dP 128::List.replicate j (dP 0))=m.map dP++dP 128::List.replicate j (dP 0):=List.take_of_length_le (by simp;omega);have hsc:List.replicate j (dP 0)++[dP 0]=List.replicate (j+1) (dP 0):=List.replicate_succ'.symm;refine aG ?_;simp;refine⟨by omega,?_⟩;refine aI (j+1) (aC hp [0,3] [(18,3)] (by simp[Nat.add_assoc]) (by simp[b0,htk,hsc])) ?_ ?_
  ·omega
  ·omega
 ·refine aO ?_;simp;refine aB ?_;have hj:j=(119-n%64)%64:=by omega
  refine aG ?_;simp[<-hn,hnu,hmu];refine aB ?_;refine aA ?_;simp;refine aF ?_;refine aJ (ι:=Nat) (λi=>aU [(0,.d (.sl (m.map dP))),(3,.ow 3 0 (n+(nY n i).length)),(4,.d (.int .u64 (8*(n:Int)))),(5,.d (aT i))]) (λi=>aL [(3,.row false 1 ((m++nY n i).map dP))]) (λi=>i<=8) (λi=>8-i) 0 (aC hp [0,3,4,5] [(3,3)] (by simp[tY,<-hj,Nat.add_comm,Nat.add_left_comm]) (by simp[tY,<-hj])) (Nat.zero_le _) λi hi7=>?_;refine aB ?_;refine aA ?_;simp;refine aD ?_;simp;refine⟨λh7=>?_,λh7=>?_⟩
  ·refine aH ?_;simp;refine aB ?_;refine aF ?_;have hsb:=FN (8*n) (i:=i) (by omega);have htk:List.take (n+(nY n i).length) (m.map dP++(nY n i).map dP)=m.map dP++(nY n i).map dP:=List.take_of_length_le (by simp;omega);rw[show((8*n:Nat):Int)=8*(n:Int)by omega]at hsb;have hu8:DV.int .u8 (IntKind.u8.wrap (8*(n:Int) / 256^(7-i)))=dP (UInt8.ofNat (8*n / 256^(7-i))):=by rw[<-Ir];simp
   have hpl:=wX n (i:=i) (by omega);refine aG ?_;simp[hsb,htk];refine⟨by omega,?_⟩;refine aG ?_;simp;refine⟨by omega,?_⟩;refine aI (i+1) (aC hp [0,3,4,5] [(35,3)] (by simp[tZ n (show i<8 by omega),Nat.add_assoc]) (by simp[tZ n (show i<8 by omega),hu8])) ?_ ?_
   ·omega
   ·omega
  ·refine aO ?_;simp;refine aA ?_;simp;refine aN ?_;have hi:i=8:=by omega
   subst hi;have htk:List.take (n+(nY n 8).length) (m.map dP++(nY n 8).map dP)=m.map dP++(nY n 8).map dP:=List.take_of_length_le (by simp;omega);rw[tE]at htk;simp[tE,<-hn,htk];intro x hx c hc;rcases hx with⟨a,_,rfl⟩|⟨a,_,rfl⟩<;>(rw[iR]at hc;rw[List.mem_singleton.1 hc];rfl)
set_option maxRecDepth 100000
theorem HK(b:List UInt8)(hb:b.length=64):Ok Tryz.prog 265 [.sl (b.map dP)] ⟨.d (.agg (wD (cU b 64))),true⟩:=by
 refine sI Tryz.func265 rfl Tryz.ntmps265 Tryz.results265 λw0 X hp=>?_;have hg:∀i,i<64->∀h:i<b.length,dP b[i]=dP (b.getD i 0):=λi _ h=>by rw[List.getD_eq_getElem?_getD,List.getElem?_eq_getElem h];rfl
 refine aA ?_;simp;refine aA ?_;simp;refine aB ?_;refine aA ?_;simp;refine aF ?_;refine aJ (ι:=Nat) (λt=>aU [(0,.d (.sl (b.map dP))),(2,.bx 2 0),(3,.bx 3 0),(4,.d (aT t))]) (λt=>aL [(2,.box false (kH b 0)),(3,.box false (kH b t))]) (λt=>t<=16) (λt=>16-t) 0 (aC hp [0,2,3,4] [(2,2),(3,3)] (hH:=by simp[BF])) (Nat.zero_le _) λt hi3=>?_;refine aB ?_;refine aA ?_;simp;refine aD ?_;simp;refine⟨λh3=>?_,λh3=>?_⟩
 ·refine aH ?_;simp;refine aB ?_;refine aF ?_;have htl:=nT b (t:=t) (by omega);have e0:(4*(t:Int)).toNat=4*t:=by omega
  have e1:(4*(t:Int)+1).toNat=4*t+1:=by omega
  have e2:(4*(t:Int)+2).toNat=4*t+2:=by omega
  have e3:(4*(t:Int)+3).toNat=4*t+3:=by omega
  have l0:4*t<b.length:=by omega
  have l1:4*t+1<b.length:=by omega
  have l2:4*t+2<b.length:=by omega
  have l3:4*t+3<b.length:=by omega
  have hput:=BE b (show t<64 by omega) _ (zJ b (t:=t) (by omega));obtain⟨q0,g0⟩:∃q,b[4*t]? =some q:=⟨_,List.getElem?_eq_getElem l0⟩;obtain⟨q1,g1⟩:∃q,b[4*t+1]? =some q:=⟨_,List.getElem?_eq_getElem l1⟩;obtain⟨q2,g2⟩:∃q,b[4*t+2]? =some q:=⟨_,List.getElem?_eq_getElem l2⟩;obtain⟨q3,g3⟩:∃q,b[4*t+3]? =some q:=⟨_,List.getElem?_eq_getElem l3⟩;simp only[DY,List.getD_eq_getElem?_getD,g0,g1,g2,g3,Option.getD_some]at hput;refine bI [] [[],[],[],[],[],[],[],[],[],[],[],[],[],[],[],[],[],[],[],[],[],[],[],[],[],[],[],[],[],[],[],[],[],[],[],[3]] (λ_=>none) ?_;simp[htl,e0,e1,e2,e3,g0,g1,g2,g3,hb];refine⟨by(repeat' with_reducible apply And.intro)<;>omega,?_⟩;refine aG ?_;simp;refine⟨by omega,?_⟩;refine aI (t+1) (aC hp [0,2,3,4] [(2,2),(3,3)] (hH:=by simp[hput])) ?_ ?_
  ·omega
  ·omega
 ·refine aO ?_;simp;refine aB ?_;refine aA ?_;simp;refine aF ?_;refine aJ (ι:=Nat) (λt=>aU [(0,.d (.sl (b.map dP))),(2,.bx 2 0),(3,.bx 3 0),(5,.d (aT t))]) (λt=>aL [(2,.box false (kH b 0)),(3,.box false (kH b t))]) (λt=>16<=t/\t<=64) (λt=>64-t) 16 (aC hp [0,2,3,5] [(2,2),(3,3)] (hH:=by simp[show t=16 by omega])) (⟨Nat.le_refl _,by decide⟩) λt hi7=>?_;refine aB ?_;refine aA ?_;simp;refine aD ?_;simp;refine⟨λh7=>?_,λh7=>?_⟩
  ·refine aH ?_;simp;refine aB ?_;refine aF ?_;refine aB ?_;have htl:=nT b (t:=t) (by omega);have i15:((t:Int)- 15).toNat=t-15:=by omega
   have i2:((t:Int)- 2).toNat=t-2:=(by omega);have i16:((t:Int)- 16).toNat=t-16:=(by omega);have i7:((t:Int)- 7).toNat=t-7:=(by omega);have g15:=lX b (t:=t) (i:=t-15) (by omega);have g2:=lX b (t:=t) (i:=t-2) (by omega);have g16:=lX b (t:=t) (i:=t-16) (by omega);have g7:=lX b (t:=t) (i:=t-7) (by omega);have hput:=BE b (show t<64 by omega) _ (BD b (t:=t) (by omega));simp only[NK,NL]at hput;refine bI [[],[],[],[],[],[55],[55],[55],[55],[],[],[55,60],[55,60],[55,60],[55,60],[55,60]] [[],[],[],[],[55],[],[],[],[],[60]] (λ|55=>some<| .plain ⟨.d (dF (uO (wd (cU b t) (t-15)) 7)),true⟩|60=>some<| .plain ⟨.d (dF (uO (wd (cU b t) (t-15)) 18)),true⟩|_=>none) ?_;simp[htl,i15,g15];refine⟨by(repeat' with_reducible apply And.intro)<;>first|omega|exact lK _ 7 (by decide)|exact lK _ 18 (by decide),?_⟩;refine aB ?_;refine bI [[],[],[],[],[],[72],[72],[72],[72],[],[],[72,77],[72,77],[72,77],[72,77],[72,77]] [[],[],[],[],[72],[],[],[],[],[77]] (λ|72=>some<| .plain ⟨.d (dF (uO (wd (cU b t) (t-2)) 17)),true⟩|77=>some<| .plain ⟨.d (dF (uO (wd (cU b t) (t-2)) 19)),true⟩|_=>none) ?_;simp[htl,i2,g2];refine⟨by(repeat' with_reducible apply And.intro)<;>first|omega|exact lK _ 17 (by decide)|exact lK _ 19 (by decide),?_⟩;refine bI [] [[],[],[],[],[],[],[],[],[],[],[],[],[],[],[],[3]] (λ_=>none) ?_;simp[htl,i16,i7,g16,g7];refine⟨by omega,?_⟩;refine aG ?_;simp;refine⟨by omega,?_⟩;refine aI (t+1) (aC hp [0,2,3,5] [(2,2),(3,3)] (hH:=by simp[hput])) ?_ ?_
   ·omega
   ·omega
  ·refine aO ?_;simp;refine aB ?_;have ht:t=64:=by omega
   subst ht;have hl0:=nT b (t:=0) (by omega);have hls:=eP b 64;have hta:List.take 64 (kH b 64)=wL (cU b 64):=by rw[FJ,Ee _ (Nat.le_of_eq hls)]
   have hpw:aQ 0 (kH b 0) (wL (cU b 64))=wL (cU b 64):=cA (by rw[mA,hls,hl0];exact Nat.le_refl _);refine aG ?_;simp[hta,oW,hpw,hl0,nT,mA,hls];refine aN ?_;have hwt:=Ee (cU b 64) (Nat.le_of_eq hls);simp[hwt,mA,hls];intro c hc;obtain⟨x,_,rfl⟩:=List.mem_map.1 hc;rfl
end
section
attribute[local simp] iC iD jZ iE gH kA iF iG mI kB kC kD kE iR
attribute[local simp] mK lJ kI rA kJ kK fG iO.cond fA Dg dV iB mL mM iH rE rF rC iI iT nU kM kN rG rH mN kO kP tC tD oO oW jS nS
theorem Kd(m:List UInt8){q:Nat}(h:64*(q+1)<=m.length):((m.drop (64*q)).take 64).length=64:=by rw[List.length_take,List.length_drop];omega
theorem Eg(s:H8):yD s=[.d (dF s.a),.d (dF s.b),.d (dF s.c),.d (dF s.d),.d (dF s.e),.d (dF s.f),.d (dF s.g),.d (dF s.h)]:=rfl
theorem Pj{m:List UInt8}:∃K,(m++nR m.length).length=64*K:=⟨(m++nR m.length).length / 64,by have:=Me m.length;rw[List.length_append];omega⟩
theorem NS(n:Nat):(nR n).length<=72:=by rw[<-tE,wX n (Nat.le_refl _)];omega
set_option maxRecDepth 100000
theorem MP(m:dO)(hm:m.length<=15000000):Ok Tryz.prog 196 [.sl (m.map dP)] ⟨.d (.agg (cN (lD m))),true⟩:=by
 refine sI Tryz.func196 rfl Tryz.ntmps196 Tryz.results196 λw0 X hp=>?_;have b0:DV.int .u8 0=dP 0:=rfl;have hKl:(wD KS).length=64:=rfl;have hpm:=NS m.length;have hPad:=Kc m (by omega);obtain⟨K,hK⟩:=Pj (m:=m);have hsha:lD m=mD (qX iv (m++nR m.length) K):=by unfold lD;rw[hK,Nat.mul_div_cancel_left _ (by decide)]
 have hNl:(m++nR m.length).length<=15000072:=by rw[List.length_append];omega
 obtain⟨P,hP⟩:∃P,P=m++nR m.length:=⟨_,rfl⟩;rw[<-hP]at hPad hK hsha hNl;have hiv:[LV.d (.int .u32 1779033703),.d (.int .u32 3144134277),.d (.int .u32 1013904242),.d (.int .u32 2773480762),.d (.int .u32 1359893119),.d (.int .u32 2600822924),.d (.int .u32 528734635),.d (.int .u32 1541459225)]=yD iv:=rfl;refine aA ?_;simp;refine aA ?_;simp[aQ];refine aS hT hW (λ|22=>some<| .plain ⟨.own 1 (P.map dP),true⟩|_=>none) ?_;simp;refine⟨hPad,?_⟩;refine aB ?_;refine aA ?_;simp;refine aF ?_;refine aJ (ι:=Nat) (λq=>aU [(2,.bx 2 0),(3,.bx 3 0),(4,.ow 4 0 P.length),(5,.d (aT (64*(q:Int))))]) (λq=>aL [(2,.box false (lF iv 0)),(3,.box false (yD (qX iv P q))),(4,.row false 1 (P.map dP))]) (λq=>q<=K) (λq=>K-q) 0 (aC hp [2,3,4,5] [(2,2),(3,3),(22,4)] (hH:=by simp[tX,b0,qX,hiv])) (Nat.zero_le _) λq hi4=>?_;refine aB ?_;refine aA ?_;simp;refine aD ?_;simp;refine⟨λh4=>?_,λh4=>?_⟩
 ·refine aH ?_;simp;refine aB ?_;refine aF ?_;refine aB ?_;have hq:q<K:=by omega
  have e1:(64*(q:Int)).toNat=64*q:=by omega
  have e2:(64*(q:Int)+64-64*(q:Int)).toNat=64:=by omega
  have hbl:=Kd P (q:=q) (by omega);obtain⟨B,hB⟩:∃B,B=(P.drop (64*q)).take 64:=⟨_,rfl⟩;have hcomp:qX iv P (q+1)=comp (qX iv P q) B:=by rw[hB];rfl
  have hmp:List.take 64 (List.drop (64*q) (P.map dP))=B.map dP:=by rw[hB,List.map_take,List.map_drop]
  rw[<-hB]at hbl;have hWd:=HK B hbl;have hsl:=eP B 64;have hcp:comp (qX iv P q) B=(qX iv P q).add (nX (qX iv P q) KS (cU B 64) 64):=rfl;obtain⟨V,hV⟩:∃V,V=cU B 64:=⟨_,rfl⟩;rw[<-hV]at hWd hsl hcp;obtain⟨s,hs⟩:∃s,s=qX iv P q:=⟨_,rfl⟩;rw[<-hs]at hcomp hcp;have hVl:(wL V).length=64:=by rw[mA,hsl]
  have hVd:(wD V).length=64:=by rw[Mr,hsl]
  have hpV:∀Z:List LV,Z.length<=64->aQ 0 Z (wL V)=wL V:=λZ hZ=>cA (by rw[hVl];exact hZ);refine eG.ro hT hW (λ|34=>some<| .plain ⟨.d (.agg (wD V)),true⟩|_=>none) ?_;simp[e1,e2,hmp,hVl,hVd,hpV];refine⟨by(repeat' with_reducible apply And.intro)<;>first|exact hWd|omega,?_⟩;refine aB ?_;refine bI [] [] (λ_=>none) ?_;simp[<-hs,Eg];refine aB ?_;refine aA ?_;simp;refine aF ?_;refine aJ (ι:=Nat) (λt=>aU [(2,.bx 2 0),(3,.bx 3 0),(4,.ow 4 0 P.length),(5,.d (aT (64*(q:Int)))),(6,.bx 6 0),(7,.d (dF (nX s KS V t).a)),(8,.d (dF (nX s KS V t).b)),(9,.d (dF (nX s KS V t).c)),(10,.d (dF (nX s KS V t).d)),(11,.d (dF (nX s KS V t).e)),(12,.d (dF (nX s KS V t).f)),(13,.d (dF (nX s KS V t).g)),(14,.d (dF (nX s KS V t).h)),(15,.d (aT t))]) (λt=>aL [(2,.box false (lF iv 0)),(3,.box false (yD s)),(4,.row false 1 (P.map dP)),(6,.box false (wL V))]) (λt=>t<=64) (λt=>64-t) 0 (aC hp [2,3,4,5,6,7,8,9,10,11,12,13,14,15] [(2,2),(3,3),(4,4),(6,6)] (by simp[nX]) (by simp[Eg])) (Nat.zero_le _) λt hi9=>?_;refine aB ?_;refine aA ?_;simp;refine aD ?_;simp;refine⟨λh9=>?_,λh9=>?_⟩
  ·refine aH ?_;simp;refine aB ?_;refine aF ?_;refine aB ?_;have hk:=Ms KS (i:=t) (by rw[MH];omega);have hw:=Ec V (i:=t) (by omega);obtain⟨r,hr⟩:∃r,r=nX s KS V t:=⟨_,rfl⟩;have hrs:nX s KS V (t+1)=Md r (KS.getD t 0) (V.getD t 0):=by rw[hr];rfl
   rw[<-hr];refine bI [[57,59,62],[],[],[57],[],[62],[57,59],[],[],[],[57,59,62],[57,59,62],[57,59,62],[57,59,62],[57,59,62],[57,59,62],[57,59,62],[57,59,62],[],[57,59,62],[57,59,62],[57,59,62],[],[57,59,62],[57,59,62],[57,59,62]] [[],[],[57],[],[59],[],[],[62]] (λ|57=>some<| .plain ⟨.d (dF (uO r.e 6)),true⟩|59=>some<| .plain ⟨.d (dF (uO r.e 11)),true⟩|62=>some<| .plain ⟨.d (dF (uO r.e 25)),true⟩|_=>none) ?_;simp[MO,hk,hw,hKl,hVl];refine⟨by(repeat' with_reducible apply And.intro)<;>first|omega|exact lK _ 6 (by decide)|exact lK _ 11 (by decide)|exact lK _ 25 (by decide),?_⟩;refine aS hT hW (λ|83=>some<| .plain ⟨.d (dF (uO r.a 2)),true⟩|85=>some<| .plain ⟨.d (dF (uO r.a 13)),true⟩|88=>some<| .plain ⟨.d (dF (uO r.a 22)),true⟩|_=>none) ?_;simp;refine⟨by(repeat' with_reducible apply And.intro)<;>first|omega|exact lK _ 2 (by decide)|exact lK _ 13 (by decide)|exact lK _ 22 (by decide),?_⟩;refine aA ?_;simp;refine aA ?_;simp;refine aA ?_;simp;refine aA ?_;simp;refine aA ?_;simp;refine aA ?_;simp;refine aA ?_;simp;refine aG ?_;simp;refine aG ?_;simp;refine⟨by omega,?_⟩;refine aI (t+1) (aC hp [2,3,4,5,6,7,8,9,10,11,12,13,14,15] [(2,2),(3,3),(4,4),(6,6)] (by simp[hrs,Md,FG])) ?_ ?_
   ·omega
   ·omega
  ·refine aO ?_;simp;have ht:t=64:=by omega
   subst ht;have hcm:qX iv P (q+1)=s.add (nX s KS V 64):=by rw[hcomp,hcp]
   refine aG ?_;simp[Eg,aQ];refine aG ?_;simp;refine⟨by omega,?_⟩;refine aI (q+1) (aC hp [2,3,4,5] [(2,2),(3,3),(4,4)] (by simp[Int.mul_add]) (by simp[hcm,Eg,H8.add])) ?_ ?_
   ·omega
   ·omega
 ·refine aO ?_;simp;refine aB ?_;have hq:q=K:=by omega
  subst hq;obtain⟨S,hS⟩:∃S,S=qX iv P q:=⟨_,rfl⟩;rw[<-hS];rw[<-hS]at hsha;refine aG ?_;simp;refine aB ?_;refine aA ?_;simp;refine aF ?_;refine aJ (ι:=Nat) (λi=>aU [(2,.bx 2 0),(3,.bx 3 0),(18,.bx 18 0),(19,.d (aT i))]) (λi=>aL [(2,.box false (lF iv 0)),(3,.box false (yD S)),(18,.box false (lF S i))]) (λi=>i<=32) (λi=>32-i) 0 (aC hp [2,3,18,19] [(2,2),(3,3),(18,18)] (hH:=by simp[tX,b0])) (Nat.zero_le _) λi hi24=>?_;refine aB ?_;refine aA ?_;simp;refine aD ?_;simp;refine⟨λh24=>?_,λh24=>?_⟩
  ·refine aH ?_;simp;refine aB ?_;refine aF ?_;have hq4:((i:Int) / 4).toNat=i / 4:=by omega
   have hr4:((i:Int)).tmod 4=(i:Int)%4:=Int.tmod_eq_emod_of_nonneg (by omega);have hsw:=MB S (i:=i / 4) (by omega);have hsh:((24:Int)- 8*((i:Int)%4)).toNat=24-8*(i%4):=by omega
   have hol:=pN S (i:=i) (by omega);have hput:=FM S (show i<32 by omega);refine aG ?_;simp[hq4,hr4,hsw,hsh,hol,wW];refine⟨by omega,?_⟩;refine aG ?_;simp;refine⟨by omega,?_⟩;refine aI (i+1) (aC hp [2,3,18,19] [(2,2),(3,3),(18,18)] (hH:=by simp[hput])) ?_ ?_
   ·omega
   ·omega
  ·refine aO ?_;simp;refine aB ?_;have hi:i=32:=by omega
   subst hi;have hol:=pN S (i:=32) (by omega);have hot:List.take 32 (lF S 32)=lF S 32:=List.take_of_length_le (by rw[hol];exact Nat.le_refl _);have hoa:=FL S;rw[<-hsha]at hoa;have hma:rT (lF S 32)=some (cN (lD m)):=by rw[hoa];exact dT _
   have hz0:=pN iv (i:=0) (by omega);have hdl:(cN (lD m)).length=32:=by simp[cN,kF]
   have hpw:aQ 0 (lF iv 0) ((cN (lD m)).map LV.d)=(cN (lD m)).map LV.d:=cA (by rw[hz0,List.length_map,hdl];exact Nat.le_refl _);refine aG ?_;simp[hol,hot,hma,hz0,hdl,hpw];refine aN ?_;have htd:List.take 32 ((cN (lD m)).map LV.d)=(cN (lD m)).map LV.d:=List.take_of_length_le (by simp[hdl]);have hta:=dT (cN (lD m));simp[hdl,htd,hta];intro c hc;obtain⟨k,n,rfl⟩:=rB _ c hc;rfl
end
section
attribute[local simp] iC iD jZ iE gH kA iF iG mI kB kC kD kE iR
attribute[local simp] mK lJ kI rA kJ kK fG iO.cond fA Dg dV iB mL mM iH rE rF rC iI iT nU kM kN rG rH mN kO kP tC tD oO oW jS nS
theorem PR(x:Nat)(h:x<256):bD x=dP (UInt8.ofNat x):=by
 unfold bD dP;rw[UInt8.toNat_ofNat',Nat.mod_eq_of_lt h]
theorem NT(n:Int):∀x∈eK n,x<256:=λx hx=>by
 have hl:=tA 8 (fS n);have hd:=qZ 8 (fS n);unfold eK at hx;rcases List.mem_cons.1 hx with h|h
 ·rw[h];split<;>omega
 ·obtain⟨d,hd',rfl⟩:=List.mem_map.1 h;have:=hd d (List.mem_reverse.1 hd');split<;>omega
theorem NU(s:List UInt8):∀x∈jC s,x<256:=λx hx=>by
 rcases List.mem_append.1 hx with h|h
 ·exact NT _ x h
 ·obtain⟨b,_,rfl⟩:=List.mem_map.1 h;exact b.toNat_lt
theorem Ke{l:List Nat}(h:∀x∈l,x<256):l.map bD=(toS l).map dP:=by
 unfold toS;rw[List.map_map];exact List.map_congr_left λx hx=>PR x (h x hx)
def rO(l:List dO)(i:Nat):List Nat:=eK l.length++(l.take i).flatMap jC
theorem pR{l:List dO}:rO l 0=eK l.length:=by simp[rO]
theorem pS{l:List dO}{i:Nat}(h:i<l.length):rO l (i+1)=rO l i++jC l[i]:=by
 unfold rO;rw[<-List.take_append_getElem h,List.flatMap_append,<-List.append_assoc];simp
theorem BJ{l:List dO}:rO l l.length=dN l:=by rw[rO,List.take_length];rfl
theorem wZ{l:List dO}{k:Nat}(h:∀s∈l,s.length<=k):∀{i:Nat},i<=l.length->(rO l i).length<=9+i*(k+9)
 |0,_=>by rw[pR];have:=fF l.length;omega
 |i+1,hi=>by
  have h1:=wZ h (i:=i) (by omega);have h2:=fF (l[i].length:Int);have h3:=h l[i] (List.getElem_mem _);rw[pS (by omega),List.length_append,kL,Nat.add_mul];omega
theorem BK(s:dO)(hl:s.length<=1000000):Ok Tryz.prog 138 [.str s] ⟨.own 1 ((jC s).map bD),true⟩:=by
 refine bE Tryz.func138 rfl Tryz.ntmps138 Tryz.results138 λw0 X hp=>?_;refine aA ?_;simp;refine aB ?_;have hb:=fF (s.length:Int);have hte:List.take (eK s.length).length ((eK s.length).map bD)=(eK s.length).map bD:=List.take_of_length_le (by simp);refine eG.ro hT hW (λ|5=>some<| .plain ⟨.own 1 ((eK s.length).map bD),true⟩|_=>none) ?_;simp[hte];refine⟨by(repeat' with_reducible apply And.intro)<;>first|omega|exact wU _ (rK (by omega)),?_⟩;refine aN ?_;have hl2:=kL s;have e:(eK s.length).map bD++s.map dP=(jC s).map bD:=by simp[jC,bD,dP]
 simp[hl2,e];refine⟨List.take_of_length_le (by simp[hl2]),?_⟩;intro x hx c hc;simp[bD,aK]at hc;subst hc;rfl
theorem xA(l:List dO)(hl:l.length<=1000)(hs:∀s∈l,s.length<=10000):Ok Tryz.prog 66 [.sl (l.map .str)] ⟨.own 1 ((dN l).map bD),true⟩:=by
 refine bE Tryz.func66 rfl Tryz.ntmps66 Tryz.results66 λw0 X hp=>?_;refine aA ?_;simp;refine aS hT hW (λ|7=>some<| .plain ⟨.own 1 ((eK l.length).map bD),true⟩|_=>none) ?_;simp;refine⟨wU _ (rK (by omega)),?_⟩;refine aB ?_;refine aA ?_;simp;refine aF ?_;refine aJ (ι:=Nat) (λk=>aU [(0,.d (.sl (l.map .str))),(3,.ow 3 0 (rO l k).length),(4,.d (aT k))]) (λk=>aL [(3,.row false 1 ((rO l k).map bD))]) (λk=>k<=l.length) (λk=>l.length-k) 0 (aC hp [0,3,4] [(7,3)] (by simp[pR]) (by simp[pR])) (Nat.zero_le _) λk hi3=>?_;refine aB ?_;refine aA ?_;simp;refine aD ?_;simp;refine⟨λh3=>?_,λh3=>?_⟩
 ·refine aH ?_;simp;refine aB ?_;refine aF ?_;have hk:k<l.length:=by omega
  have hb1:=wZ hs (i:=k) (by omega);have hkm:k*(10000+9)<=1000*(10000+9):=Nat.mul_le_mul (by omega) (Nat.le_refl _);have hb2:=fF (l[k].length:Int);have hb3:=hs l[k] (List.getElem_mem hk);have hb4:=kL l[k];have k1:=BK l[k] (by omega);have htk:List.take (rO l k).length ((rO l k).map bD)=(rO l k).map bD:=List.take_of_length_le (by simp);refine eG.ro hT hW (λ|19=>some<| .plain ⟨.own 1 ((jC l[k]).map bD),true⟩|_=>none) ?_;simp[hk,htk];refine⟨⟨by exact k1,λ_ _=>rfl,by omega⟩,?_⟩;refine aG ?_;simp;refine⟨by omega,?_⟩;refine aI (k+1) (aC hp [0,3,4] [(20,3)] (by simp[pS hk]) (by simp[pS hk])) ?_ ?_
  ·omega
  ·omega
 ·refine aO ?_;simp;refine aA ?_;simp;refine aN ?_;have hk:k=l.length:=by omega
  subst hk;rw[BJ];simp;intro x hx c hc;simp[bD,aK]at hc;subst hc;rfl
theorem MQ(tag:Nat)(parts:List dO)(hl:parts.length<=10)(hs:∀s∈parts,s.length<=1000000):Ok Tryz.prog 130 [aT tag,.sl (parts.map .str)] ⟨.own 1 ((uP tag parts).map dP),true⟩:=by
 refine bE Tryz.func130 rfl Tryz.ntmps130 Tryz.results130 λw0 X hp=>?_;have hw:DV.int .u8 (IntKind.u8.wrap (tag:Int))=dP (UInt8.ofNat tag):=Ir tag;have hM:∀i,(uP tag (parts.take i)).length<=10000100:=λi=>by
  have h1:=Af tag (k:=1000009) (parts:=parts.take i) λs h=>by
   have:=hs s (List.mem_of_mem_take h);have:=fF (s.length:Int);rw[kL];omega
  have h2:(parts.take i).length<=10:=by rw[List.length_take];omega
  have h3:(parts.take i).length*1000009<=10*1000009:=Nat.mul_le_mul h2 (Nat.le_refl _);omega
 refine aA ?_;simp;refine aA ?_;simp[hw];refine aB ?_;refine aA ?_;simp;refine aF ?_;refine aJ (ι:=Nat) (λi=>aU [(0,.d (aT tag)),(1,.d (.sl (parts.map .str))),(5,.ow 5 0 (uP tag (parts.take i)).length),(6,.d (aT i))]) (λi=>aL [(5,.row false 1 ((uP tag (parts.take i)).map dP))]) (λi=>i<=parts.length) (λi=>parts.length-i) 0 (aC hp [0,1,5,6] [(9,5)] (by simp[uP]) (by simp[uP])) (Nat.zero_le _) λi hi3=>?_;refine aB ?_;refine aA ?_;simp;refine aD ?_;simp;refine⟨λh3=>?_,λh3=>?_⟩
 ·refine aH ?_;simp;refine aB ?_;refine aF ?_;have hi:i<parts.length:=by omega
  have hsu:uP tag (parts.take (i+1))=uP tag (parts.take i)++toS (jC parts[i]):=by rw[FK tag parts hi,List.getD_eq_getElem?_getD,List.getElem?_eq_getElem hi];rfl
  have hMi:=hM i;have hb1:=hs parts[i] (List.getElem_mem hi);have hb2:=fF (parts[i].length:Int);have hb4:=kL parts[i];have hmb:=Ke (NU parts[i]);have k1:=BK parts[i] hb1;have htk:List.take (uP tag (parts.take i)).length ((uP tag (parts.take i)).map dP)=(uP tag (parts.take i)).map dP:=List.take_of_length_le (by simp);rw[hmb]at k1;rw[<-tW]at hb4;refine eG.ro hT hW (λ|21=>some<| .plain ⟨.own 1 ((toS (jC parts[i])).map dP),true⟩|_=>none) ?_;simp[hi,htk];refine⟨by(repeat' with_reducible apply And.intro)<;>first|exact k1|omega|(intros;rfl),?_⟩;refine aG ?_;simp;refine⟨by omega,?_⟩;refine aI (i+1) (aC hp [0,1,5,6] [(22,5)] (by simp[hsu]) (by simp[hsu])) ?_ ?_
  ·omega
  ·omega
 ·refine aO ?_;simp;refine aA ?_;simp;refine aN ?_;have hi:i=parts.length:=by omega
  subst hi;rw[List.take_length];simp;intro x hx;rfl
def eW(h:List UInt8)(i:Nat):List LV:=((h.take i++List.replicate (16-i) 0).map dP).map .d
theorem HL(h:List UInt8):eW h 0=List.replicate 16 (.d (dP 0)):=by simp[eW]
theorem CX(h:List UInt8)(hl:h.length=32){i:Nat}(hi:i<=16):(eW h i).length=16:=by simp[eW];omega
theorem Kf(h:List UInt8)(hl:h.length=32){i:Nat}(hi:i<16):aQ i (eW h i) [.d (dP (h.getD i 0))]=eW h (i+1):=by
 have hil:i<h.length:=by omega
 have hk:(h.take i).length=i:=by rw[List.length_take];omega
 have e2:=pL (A:=h.take i) (B:=0::List.replicate (15-i) 0) (new:=[h[i]]) (k:=i) (n:=0) hk;rw[Nat.add_zero]at e2;unfold eW;rw[List.getD_eq_getElem?_getD,List.getElem?_eq_getElem hil,Option.getD_some,show [LV.d (dP h[i])]=([h[i]].map dP).map .d by rfl,lW,lW,show 16-i=15-i+1 by omega,List.replicate_succ,e2,<-List.take_append_getElem hil,show 16-(i+1)=15-i by omega,List.append_assoc];rfl
theorem Kg(h:List UInt8)(hl:h.length=32):eW h 16=(cN (h.take 16)).map .d:=by simp[eW,cN]
theorem Kh(σ:List (Nat×Nat))(h:List UInt8)(i:Nat):(eW h i).map (ren σ 8)=eW h i:=rD _ _
theorem FR(σ:List (Nat×Nat)):(ren σ 8∘LV.d)=LV.d:=rfl
theorem MR(m:dO)(hm:m.length<=15000000):Ok Tryz.prog 129 [.sl (m.map dP)] ⟨.d (.agg (cN ((lD m).take 16))),true⟩:=by
 refine sI Tryz.func129 rfl Tryz.ntmps129 Tryz.results129 λw0 X hp=>?_;have b0:DV.int .u8 0=dP 0:=rfl;have hdl:(cN (lD m)).length=32:=by simp[cN,kF]
 have hdL:((cN (lD m)).map LV.d).length=32:=by rw[List.length_map,hdl]
 have hpz:∀Z:List LV,Z.length<=32->aQ 0 Z ((cN (lD m)).map LV.d)=(cN (lD m)).map LV.d:=λZ hZ=>cA (by rw[hdL];exact hZ);refine aA ?_;simp;refine aS hT hW (λ|7=>some<| .plain ⟨.d (.agg (cN (lD m))),true⟩|_=>none) ?_;simp[hpz,hdl];refine⟨MP m hm,?_⟩;refine aA ?_;simp[aQ];refine aB ?_;refine aA ?_;simp;refine aF ?_;refine aJ (ι:=Nat) (λi=>aU [(2,.bx 2 0),(3,.bx 3 0),(4,.bx 4 0),(5,.d (aT i))]) (λi=>aL [(2,.box false (List.replicate 16 (.d (dP 0)))),(3,.box false ((cN (lD m)).map .d)),(4,.box false (eW (lD m) i))]) (λi=>i<=16) (λi=>16-i) 0 (aC hp [2,3,4,5] [(2,2),(3,3),(4,4)] (hH:=by simp[b0,HL,FR])) (Nat.zero_le _) λi hi4=>?_;refine aB ?_;refine aA ?_;simp;refine aD ?_;simp;refine⟨λh4=>?_,λh4=>?_⟩
 ·refine aH ?_;simp;refine aB ?_;refine aF ?_;have hget:(cN (lD m))[i]? =some (dP ((lD m).getD i 0)):=by
   have h:i<(lD m).length:=(by rw[kF];omega);unfold cN;rw[List.getElem?_map,List.getElem?_eq_getElem h,List.getD_eq_getElem?_getD,List.getElem?_eq_getElem h];rfl
  have hput:=Kf (lD m) (kF m) (i:=i) (by omega);simp only[List.getD_eq_getElem?_getD]at hput;have hsl:=CX (lD m) (kF m) (i:=i) (by omega);refine aG ?_;simp[hget,hsl,hdl];refine⟨by omega,?_⟩;refine aG ?_;simp;refine⟨by omega,?_⟩;refine aI (i+1) (aC hp [2,3,4,5] [(2,2),(3,3),(4,4)] (hH:=by simp[hput,FR,Kh])) ?_ ?_
  ·omega
  ·omega
 ·refine aO ?_;simp;refine aB ?_;have hi:i=16:=by omega
  subst hi;have hsl:=CX (lD m) (kF m) (i:=16) (by omega);have hst:List.take 16 (eW (lD m) 16)=eW (lD m) 16:=List.take_of_length_le (by rw[hsl];exact Nat.le_refl _);have hsa:=Kg (lD m) (kF m);have hma:rT (eW (lD m) 16)=some (cN ((lD m).take 16)):=by rw[hsa];exact dT _
  have hd16:(cN ((lD m).take 16)).length=16:=by simp[cN,kF]
  have hp16:∀Z:List LV,Z.length<=16->aQ 0 Z ((cN ((lD m).take 16)).map LV.d)=(cN ((lD m).take 16)).map LV.d:=λZ hZ=>cA (by rw[List.length_map,hd16];exact hZ);refine aG ?_;simp[hsl,hst,hma,hd16,hp16];refine aN ?_;have htd:List.take 16 ((cN ((lD m).take 16)).map LV.d)=(cN ((lD m).take 16)).map LV.d:=List.take_of_length_le (by rw[List.length_map,hd16];exact Nat.le_refl _);have hta:=dT (cN ((lD m).take 16));simp[hd16,htd,hta];intro c hc;obtain⟨k,n,rfl⟩:=rB _ c hc;rfl
theorem NV(tag:Nat)(parts:List dO)(hl:parts.length<=10)(hs:∀s∈parts,s.length<=1000000):Ok Tryz.prog 53 [aT tag,.sl (parts.map .str)] ⟨.d (.agg (cN (zR tag parts))),true⟩:=by
 refine sI Tryz.func53 rfl Tryz.ntmps53 Tryz.results53 λw0 X hp=>?_;have h1:=Af tag (k:=1000009) (parts:=parts) λs h=>by
  have:=hs s h;have:=fF (s.length:Int);rw[kL];omega
 have h3:parts.length*1000009<=10*1000009:=Nat.mul_le_mul hl (Nat.le_refl _);have hS:=MR (uP tag parts) (by omega);rw[show(lD (uP tag parts)).take 16=zR tag parts by rfl]at hS;have hd16:(cN (zR tag parts)).length=16:=by simp[cN,tT]
 have hp16:∀Z:List LV,Z.length<=16->aQ 0 Z ((cN (zR tag parts)).map LV.d)=(cN (zR tag parts)).map LV.d:=λZ hZ=>cA (by rw[List.length_map,hd16];exact hZ);refine aA ?_;simp;refine aB ?_;have htk:List.take (uP tag parts).length ((uP tag parts).map dP)=(uP tag parts).map dP:=List.take_of_length_le (by simp);refine eG.ro hT hW (λ|7=>some<| .plain ⟨.own 1 ((uP tag parts).map dP),true⟩|8=>some<| .plain ⟨.d (.agg (cN (zR tag parts))),true⟩|_=>none) ?_;simp[htk,hd16,hp16];refine⟨⟨MQ tag parts hl hs,hS⟩,?_⟩;refine aN ?_;have htd:List.take 16 ((cN (zR tag parts)).map LV.d)=(cN (zR tag parts)).map LV.d:=List.take_of_length_le (by simp[hd16]);have hta:=dT (cN (zR tag parts));simp[hd16,htd,hta];intro c hc;obtain⟨k,n,rfl⟩:=rB _ c hc;rfl
end
section
attribute[local simp] bA bW aQ aZ
attribute[local simp] iO.cond
theorem xB(l:List Int)(hl:l.length<=1000000)(hr:∀n∈l,vE n):Ok Tryz.prog 14 [.sl (l.map aT)] ⟨.own 1 ((bN l).map bD),true⟩:=by
 refine bE Tryz.func14 rfl Tryz.ntmps14 Tryz.results14 λw0 X hp=>?_;refine aA ?_;simp;refine aS hT hW (λ|8=>some<| .plain ⟨.own 1 ((eK l.length).map bD),true⟩|_=>none) ?_;simp;refine⟨Ah _ (rK (by omega)),?_⟩;refine aB ?_;refine aA ?_;simp;refine aF ?_;refine aJ (ι:=Nat) (λk=>aU [(3,.ow 3 0 (rN l k).length),(9,.d (.sl (l.map aT))),(10,.d (aT l.length)),(11,.d (aT k))]) (λk=>aL [(3,.row false 1 ((rN l k).map bD))]) (λk=>k<=l.length) (λk=>l.length-k) 0 (aC hp [3,9,10,11] [(8,3)] (by simp[pO]) (by simp[pO])) (Nat.zero_le _) λk hi3=>?_;refine aA ?_;simp;refine aB ?_;refine aD ?_;simp;refine⟨λh3=>?_,λh3=>?_⟩
 ·refine aH ?_;simp;refine aB ?_;refine aF ?_;refine aB ?_;have hk:k<l.length:=by omega
  refine aG ?_;simp[hk];have hk:k<l.length:=by omega
  have hb1:=wY (l:=l) (k:=k) (by omega);have hb2:=fF l[k];have k1:=Ah l[k] (hr _ (List.getElem_mem hk));have htk:List.take (rN l k).length ((rN l k).map bD)=(rN l k).map bD:=List.take_of_length_le (by simp);refine eG.ro hT hW (λ|17=>some<| .plain ⟨.own 1 ((eK l[k]).map bD),true⟩|_=>none) ?_;simp[hk,htk];refine⟨⟨by exact k1,λ_ _=>rfl,by omega⟩,?_⟩;refine aG ?_;simp;refine⟨by omega,?_⟩;refine aI (k+1) (aC hp [3,9,10,11] [(18,3)] (by simp[pP hk]) (by simp[pP hk])) ?_ ?_
  ·omega
  ·omega
 ·refine aO ?_;simp;refine aA ?_;simp;refine aN ?_;have hk:k=l.length:=by omega
  subst hk;rw[BH];simp;intro x hx c hc;simp[bD,aK]at hc;subst hc;rfl
end
section
attribute[local simp] iC iD jZ iE gH kA iF iG mI kB kC kD kE iR
attribute[local simp] mK lJ kI rA kJ kK fG iO.cond fA Dg dV iB mL mM iH rE rF rC iI iT nU kM kN rG rH mN kO kP tC tD oO oW jS nS
theorem zK(l:List dO)(hl:l.length<=1000)(hs:∀s∈l,s.length<=10000):Ok Tryz.prog 65 [.sl (l.map .str)] ⟨.own 1 ((dN l).map bD),true⟩:=by
 refine bE Tryz.func65 rfl Tryz.ntmps65 Tryz.results65 λw0 X hp=>?_;refine aA ?_;simp;refine aS hT hW (λ|8=>some<| .plain ⟨.own 1 ((eK l.length).map bD),true⟩|_=>none) ?_;simp;refine⟨Ah _ (rK (by omega)),?_⟩;refine aB ?_;refine aA ?_;simp;refine aF ?_;refine aJ (ι:=Nat) (λk=>aU [(3,.ow 3 0 (rO l k).length),(9,.d (.sl (l.map .str))),(10,.d (aT l.length)),(11,.d (aT k))]) (λk=>aL [(3,.row false 1 ((rO l k).map bD))]) (λk=>k<=l.length) (λk=>l.length-k) 0 (aC hp [3,9,10,11] [(8,3)] (by simp[pR]) (by simp[pR])) (Nat.zero_le _) λk hi3=>?_;refine aA ?_;simp;refine aB ?_;refine aD ?_;simp;refine⟨λh3=>?_,λh3=>?_⟩
 ·refine aH ?_;simp;refine aB ?_;refine aF ?_;refine aB ?_;have hk:k<l.length:=by omega
  refine aG ?_;simp[hk];have hb1:=wZ hs (i:=k) (by omega);have hkm:k*(10000+9)<=1000*(10000+9):=Nat.mul_le_mul (by omega) (Nat.le_refl _);have hb2:=fF (l[k].length:Int);have hb3:=hs l[k] (List.getElem_mem hk);have hb4:=kL l[k];have k1:=CW l[k] (by omega);have htk:List.take (rO l k).length ((rO l k).map bD)=(rO l k).map bD:=List.take_of_length_le (by simp);refine eG.ro hT hW (λ|17=>some<| .plain ⟨.own 1 ((jC l[k]).map bD),true⟩|_=>none) ?_;simp[hk,htk];refine⟨by(repeat' with_reducible apply And.intro)<;>first|exact k1|omega|(intros;rfl),?_⟩;refine aG ?_;simp;refine⟨by omega,?_⟩;refine aI (k+1) (aC hp [3,9,10,11] [(18,3)] (by simp[pS hk]) (by simp[pS hk])) ?_ ?_
  ·omega
  ·omega
 ·refine aO ?_;simp;refine aA ?_;simp;refine aN ?_;have hk:k=l.length:=by omega
  subst hk;rw[BJ];simp;intro x hx c hc;simp[bD,aK]at hc;subst hc;rfl
end
section
attribute[local simp] bA bW aQ aZ
attribute[local simp] iO.cond
def oP(c:List Nm)(k:Nat):List Int:=aW (c.take k)
theorem vH{c:List Nm}:oP c 0=[]:=by simp[oP,aW]
theorem vI{c:List Nm}{k:Nat}(hk:k<c.length):oP c (k+1)=oP c k++[c[k].who,c[k].seq]:=by
 unfold oP aW;rw[<-List.take_append_getElem hk,List.flatMap_append];simp
theorem CY{c:List Nm}:oP c c.length=aW c:=by rw[oP,List.take_length]
theorem pT{c:List Nm}:∀{k:Nat},k<=c.length->(oP c k).length=2*k
 |0,_=>by rw[vH];rfl
 |k+1,h=>by
  have:=pT (c:=c) (k:=k) (by omega);rw[vI (by omega),List.length_append];simp;omega
theorem Ai(c:List Nm)(hl:c.length<=1000000):Ok Tryz.prog 15 [bY c] ⟨.own 1 ((aW c).map aT),true⟩:=by
 refine bE Tryz.func15 rfl Tryz.ntmps15 Tryz.results15 λw0 X hp=>?_;refine aA ?_;simp;refine aA ?_;simp;refine aB ?_;refine aA ?_;simp;refine aF ?_;refine aJ (ι:=Nat) (λk=>aU [(0,.d (bY c)),(3,.ow 3 0 (2*k)),(4,.d (aT k))]) (λk=>aL [(3,.row false 1 ((oP c k).map aT))]) (λk=>k<=c.length) (λk=>c.length-k) 0 (aC hp [0,3,4] [(3,3)] (hH:=by simp[vH])) (Nat.zero_le _) λk hi3=>?_;refine aB ?_;refine aA ?_;simp;refine aD ?_;simp;refine⟨λh3=>?_,λh3=>?_⟩
 ·refine aH ?_;simp;refine aB ?_;refine aF ?_;have hk:k<c.length:=by omega
  have hln:=pT (c:=c) (k:=k) (by omega);have htk:List.take (2*k) ((oP c k).map aT)=(oP c k).map aT:=List.take_of_length_le (by simp[hln]);refine bI [[22]] [[],[],[],[],[],[],[],[],[],[],[],[22],[3,23]] (λ_=>none) ?_;simp[hk,htk];refine⟨by refine⟨?_,?_⟩<;>first|omega|(intros;rfl)|skip,?_⟩;refine aG ?_;simp;refine⟨by omega,?_⟩;refine aI (k+1) (aC hp [0,3,4] [(23,3)] (by simp[show 2*k+2=2*(k+1)by omega]) (by simp[vI hk])) ?_ ?_
  ·omega
  ·omega
 ·refine aO ?_;simp;refine aA ?_;simp;refine aN ?_;have hk:k=c.length:=by omega
  subst hk;have hln:=pT (c:=c) (Nat.le_refl _);rw[CY]at hln|-;simp[hln];exact List.take_of_length_le (by simp[hln])
theorem iJ{l:List Int}:(bN l).length<=9*(l.length+1):=by
 rw[<-BH];exact wY (Nat.le_refl _)
end
section
attribute[local simp] bA bW aQ aZ
attribute[local simp] iO.cond
def Pn(l:List Nat):DV:=.sl (l.map bD)
attribute[local simp] Pn
def lG(h:List (List Nat)):List Nat:=h.flatten
theorem CZ{h:List (List Nat)}{i:Nat}(hi:i<h.length):lG (h.take (i+1))=lG (h.take i)++h[i]:=by
 unfold lG;rw[List.take_succ_eq_append_getElem hi,List.flatten_append];simp
theorem BL:lG []=[]:=rfl
theorem MS(h g:List (List Nat)):lG (h++g)=lG h++lG g:=by simp[lG]
theorem Aj{h:List (List Nat)}{i:Nat}(hi:i<h.length):(lG (h.take (i+1))).length=(lG (h.take i)).length+h[i].length:=by rw[CZ hi,List.length_append]
theorem FS{h:List (List Nat)}(i:Nat):(lG (h.take i)).length<=(lG h).length:=by
 conv=>rhs;rw[<-List.take_append_drop i h]
 rw[MS,List.length_append];omega
theorem MT(n:Nat)(h0:0<n)(hn:n<=8000000000000):BO Tryz.prog 137 [.nl,.d (aT n)] [] [(0,.row false 1 (List.replicate n (bD 0)))] (.ow 0 0 0):=by
 refine DC Tryz.func137 rfl Tryz.ntmps137 Tryz.results137 λw0 X hp=>?_;refine aA ?_;simp;refine aB ?_;refine aA ?_;simp[(show¬((n:Int)<0)by omega)];refine aD ?_;simp;refine aH ?_;simp;refine aB ?_;refine aA ?_;simp;refine⟨by omega,?_⟩;refine aA ?_;simp;refine aD ?_;simp[h0];refine aG ?_;simp[h0];refine⟨by omega,?_⟩;refine aA ?_;simp;refine aN ?_;simp;exact aC hp [4] [(22,0)] (hH:=by simp[bD])
theorem HM(h:List (List Nat))(hl:h.length<=1000000)(h0:0<(lG h).length)(hn:(lG h).length<=8000000000000):Ok Tryz.prog 64 [.sl (h.map Pn)] ⟨.own 1 ((lG h).map bD),true⟩:=by
 refine bE Tryz.func64 rfl Tryz.ntmps64 Tryz.results64 λw0 X hp=>?_;refine aA ?_;simp;refine aA ?_;simp;refine aB ?_;refine aA ?_;simp;refine aF ?_;refine aJ (ι:=Nat) (λi=>aU [(0,.d (.sl (h.map Pn))),(3,.d (aT ((lG (h.take i)).length:Nat))),(9,.d (.sl (h.map Pn))),(10,.d (aT h.length)),(11,.d (aT i))]) (λi=>aL []) (λi=>i<=h.length) (λi=>h.length-i) 0 (aC hp [0,3,9,10,11] [] (by simp[BL])) (by omega) λi hi3=>?_;refine aA ?_;simp;refine aB ?_;refine aD ?_;simp;refine⟨λh3=>?_,λh3=>?_⟩
 ·refine aH ?_;simp;refine aB ?_;refine aF ?_;refine aA ?_;simp[h3];refine aB ?_;have hf1:=Aj h3;have hf2:=FS (h:=h) (i+1);refine aG ?_;simp;refine⟨by omega,?_⟩;refine aA ?_;simp[(show¬(((lG (h.take i)).length:Int)+(h[i].length:Int)<0)by omega)];refine aD ?_;simp;refine aH ?_;simp;refine aG ?_;simp;refine⟨by omega,?_⟩;refine aI (i+1) (aC hp [0,3,9,10,11] [] (by simp[Aj h3])) ?_ ?_
  ·exact h3
  ·omega
 ·refine aO ?_;simp;refine aB ?_;have hi:i=h.length:=by omega
  subst hi;refine eG.ro hT hW (λ|24=>some (.gen ⟨[],[(0,24)],[],[(0,.row false 1 (List.replicate (lG h).length (bD 0)))],.ow 0 0 0⟩)|_=>none) ?_;simp;refine⟨MT _ h0 hn,?_⟩;refine aB ?_;refine aA ?_;simp;refine aF ?_;refine aJ (ι:=Nat×List DV) (λ⟨j,L⟩=>aU [(0,.d (.sl (h.map Pn))),(6,.ow 6 0 (lG (h.take j)).length),(25,.d (.sl (h.map Pn))),(26,.d (aT h.length)),(27,.d (aT j))]) (λ⟨j,L⟩=>aL [(6,.row false 1 L)]) (λ⟨j,L⟩=>j<=h.length/\L.take (lG (h.take j)).length=(lG (h.take j)).map bD) (λ⟨j,L⟩=>h.length-j) (0,List.replicate (lG h).length (bD 0)) (aC hp [0,6,25,26,27] [(24,6)] (by simp[BL])) (⟨by omega,by simp[BL]⟩) λ⟨j,L⟩ hi11=>?_;refine aA ?_;simp;refine aB ?_;refine aD ?_;simp;refine⟨λh11=>?_,λh11=>?_⟩
  ·refine aH ?_;simp;refine aB ?_;refine aF ?_;refine aA ?_;simp[h11];have hf1:=Aj h11;have hf2:=FS (h:=h) (j+1);refine aG ?_;simp;refine⟨by(repeat' with_reducible apply And.intro)<;>first|omega|(intros;rfl),?_⟩;refine aG ?_;simp;refine⟨by omega,?_⟩;refine aI (j+1,(lG (h.take (j+1))).map bD) (aC hp [0,6,25,26,27] [(33,6)] (by simp[Aj h11]) (by simp[hi11.2,CZ h11])) ?_ ?_
   ·refine⟨h11,?_⟩;rw[List.take_of_length_le (by simp)]
   ·omega
  ·refine aO ?_;simp;refine aA ?_;simp;refine aN ?_;have hj:j=h.length:=by omega
   have:=hi11.2;rw[hj,List.take_length]at this;have hl2:=congrArg List.length this;rw[List.length_take,List.length_map]at hl2;simp[hj,this];refine⟨by omega,?_⟩;intro a _ c hc;simp[bD,aK]at hc;subst hc;rfl
theorem BM(c:List Nm)(hl:c.length<=1000000):Ok Tryz.prog 52 [bY c] ⟨.own 1 ((aW c).map aT),true⟩:=by
 refine bE Tryz.func52 rfl Tryz.ntmps52 Tryz.results52 λw0 X hp=>?_;refine aA ?_;simp;refine aA ?_;simp;refine aB ?_;refine aA ?_;simp;refine aF ?_;refine aJ (ι:=Nat) (λk=>aU [(3,.ow 3 0 (2*k)),(6,.d (bY c)),(7,.d (aT c.length)),(8,.d (aT k))]) (λk=>aL [(3,.row false 1 ((oP c k).map aT))]) (λk=>k<=c.length) (λk=>c.length-k) 0 (aC hp [3,6,7,8] [(3,3)] (hH:=by simp[vH])) (Nat.zero_le _) λk hi3=>?_;refine aA ?_;simp;refine aB ?_;refine aD ?_;simp;refine⟨λh3=>?_,λh3=>?_⟩
 ·refine aH ?_;simp;refine aB ?_;refine aF ?_;refine aB ?_;have hk:k<c.length:=by omega
  refine aG ?_;simp[hk];have hln:=pT (c:=c) (k:=k) (by omega);have htk:List.take (2*k) ((oP c k).map aT)=(oP c k).map aT:=List.take_of_length_le (by simp[hln]);refine aG ?_;simp[hk,htk];refine⟨by(repeat' with_reducible apply And.intro)<;>first|omega|(intros;rfl),?_⟩;refine aG ?_;simp;refine⟨by omega,?_⟩;refine aI (k+1) (aC hp [3,6,7,8] [(18,3)] (by simp[show 2*k+2=2*(k+1)by omega]) (by simp[vI hk])) ?_ ?_
  ·omega
  ·omega
 ·refine aO ?_;simp;refine aA ?_;simp;refine aN ?_;have hk:k=c.length:=by omega
  subst hk;have hln:=pT (c:=c) (Nat.le_refl _);rw[CY]at hln|-;simp[hln];exact List.take_of_length_le (by simp[hln])
def vJ(l:List Df)(k:Nat):List dO:=dJ (l.take k)
theorem Da{l:List Df}:vJ l 0=[]:=by simp[vJ,dJ]
theorem Db{l:List Df}{k:Nat}(hk:k<l.length):vJ l (k+1)=vJ l k++[l[k].name,l[k].text]:=by
 unfold vJ dJ;rw[<-List.take_append_getElem hk,List.flatMap_append];simp
theorem FT{l:List Df}:vJ l l.length=dJ l:=by rw[vJ,List.take_length]
theorem xC{l:List Df}{k:Nat}(h:k<=l.length):(vJ l k).length=2*k:=by rw[vJ,jQ,List.length_take,Nat.min_eq_left h]
structure Oi(e:Ed):Prop where
 rng:Kn e
 needs:e.needs.length<=1000
 puts:e.puts.length<=400
 drops:e.drops.length<=400
theorem Oi.nm{e:Ed}(h:Oi e):∀n∈aW [e.name],vE n:=λn hn=>by
 have:=h.rng.name;simp[aW]at hn;rcases hn with rfl|rfl
 ·exact this.1
 ·exact this.2
theorem mV{c:List Nm}(h:∀n∈c,Gc n):∀x∈aW c,vE x:=λx hx=>by
 obtain⟨n,hn,hx⟩:=List.mem_flatMap.1 hx;simp at hx;rcases hx with rfl|rfl
 ·exact(h n hn).1
 ·exact(h n hn).2
theorem Oi.pt{e:Ed}(h:Oi e):∀s∈dJ e.puts,s.length<=2000:=λs hs=>by
 obtain⟨d,hd,hs⟩:=List.mem_flatMap.1 hs;have:=h.rng.puts d hd;simp at hs;rcases hs with rfl|rfl<;>omega
theorem Oi.ok{e:Ed}(h:Oi e):Qp e:=by
 refine⟨⟨by simp[aW],h.nm⟩,⟨by rw[fR];have:=h.needs;omega,mV h.rng.needs⟩,⟨by rw[jQ];have:=h.puts;omega,λs hs=>by have:=h.pt s hs;omega⟩,⟨by have:=h.drops;omega,λs hs=>by have:=h.rng.drops s hs;omega⟩⟩
theorem mW{l:List dO}{k:Nat}(h:∀s∈l,s.length<=k):(dN l).length<=9+l.length*(k+9):=by rw[<-BJ];exact wZ h (Nat.le_refl _)
theorem Ki(l:List Int):0<(bN l).length:=by simp[bN,eK]
theorem HN(e:Ed)(h:Oi e):Ok Tryz.prog 17 [e.d] ⟨.own 1 ((eB e).map bD),true⟩:=by
 refine bE Tryz.func17 rfl Tryz.ntmps17 Tryz.results17 λw0 X hp=>?_;have hw1:=h.needs;have hw2:=h.puts;have hw3:=h.drops;refine aA ?_;simp;refine aA ?_;simp;refine aB ?_;refine aA ?_;simp;refine aF ?_;refine aJ (ι:=Nat) (λk=>aU [(1,.bx 1 0),(3,.ow 3 0 (2*k)),(7,.d (jA e.puts)),(8,.d (aT e.puts.length)),(9,.d (aT k))]) (λk=>aL [(1,.box false [.d (aT e.name.who),.d (aT e.name.seq),.d (bY e.needs),.d (jA e.puts),.d (cQ e.drops)]),(3,.row false 1 ((vJ e.puts k).map .str))]) (λk=>k<=e.puts.length) (λk=>e.puts.length-k) 0 (aC hp [1,3,7,8,9] [(1,1),(3,3)] (hH:=by simp[Da])) (Nat.zero_le _) λk hi3=>?_;refine aA ?_;simp;refine aB ?_;refine aD ?_;simp;refine⟨λh3=>?_,λh3=>?_⟩
 ·refine aH ?_;simp;refine aB ?_;refine aF ?_;refine aB ?_;have hk:k<e.puts.length:=by omega
  refine aG ?_;simp[hk];have hln:=xC (l:=e.puts) (k:=k) (by omega);have htk:List.take (2*k) ((vJ e.puts k).map DV.str)=(vJ e.puts k).map DV.str:=List.take_of_length_le (by simp[hln]);refine aG ?_;simp[hk,htk];refine⟨by(repeat' with_reducible apply And.intro)<;>first|omega|(intros;rfl),?_⟩;refine aG ?_;simp;refine⟨by omega,?_⟩;refine aI (k+1) (aC hp [1,3,7,8,9] [(1,1),(19,3)] (by simp[show 2*k+2=2*(k+1)by omega]) (by simp[Db hk])) ?_ ?_
  ·omega
  ·omega
 ·refine aO ?_;simp;refine aB ?_;have hk:k=e.puts.length:=by omega
  subst hk;have hln:=xC (l:=e.puts) (Nat.le_refl _);rw[FT]at*;have htk:List.take (2*e.puts.length) ((dJ e.puts).map DV.str)=(dJ e.puts).map DV.str:=List.take_of_length_le (by simp[hln]);have f1:=BM [e.name] (by simp);have f2:=BM e.needs (by omega);have n1:=fR [e.name];have n2:=fR e.needs;have n3:[e.name].length=1:=rfl;have w1:=xB (aW [e.name]) (by rw[n1];simp) h.nm;have w2:=xB (aW e.needs) (by omega) (mV h.rng.needs);have w3:=zK (dJ e.puts) (by rw[jQ];omega) λs hs=>by have:=h.pt s hs;omega
  have w4:=zK e.drops (by omega) λs hs=>by have:=h.rng.drops s hs;omega
  have t1:List.take (aW [e.name]).length ((aW [e.name]).map aT)=(aW [e.name]).map aT:=List.take_of_length_le (by simp);have t2:List.take (aW e.needs).length ((aW e.needs).map aT)=(aW e.needs).map aT:=List.take_of_length_le (by simp);have t3:List.take (bN (aW [e.name])).length ((bN (aW [e.name])).map bD)=(bN (aW [e.name])).map bD:=List.take_of_length_le (by simp);have t4:List.take (bN (aW e.needs)).length ((bN (aW e.needs)).map bD)=(bN (aW e.needs)).map bD:=List.take_of_length_le (by simp);have t5:List.take (dN (dJ e.puts)).length ((dN (dJ e.puts)).map bD)=(dN (dJ e.puts)).map bD:=List.take_of_length_le (by simp);have t6:List.take (dN e.drops).length ((dN e.drops).map bD)=(dN e.drops).map bD:=List.take_of_length_le (by simp);have c0:=Ki (aW [e.name]);have b1:=iJ (l:=aW [e.name]);have b2:=iJ (l:=aW e.needs);have b3:=mW h.pt;have b4:=mW h.rng.drops;have b5:(dJ e.puts).length*(2000+9)<=800*2009:=Nat.mul_le_mul (by rw[jQ];omega) (Nat.le_refl _);have b6:e.drops.length*(1000+9)<=400*1009:=Nat.mul_le_mul hw3 (Nat.le_refl _);have hc:=HM [bN (aW [e.name]),bN (aW e.needs),dN (dJ e.puts),dN e.drops] (by simp) (by simp[lG];omega) (by simp[lG];omega);have hce:lG [bN (aW [e.name]),bN (aW e.needs),dN (dJ e.puts),dN e.drops]=eB e:=by simp[lG,eB]
  rw[hce]at hc;refine bI [[],[],[],[],[],[23,24,25],[23,24,25],[],[],[23,24,25,28,29],[],[23,24,25,28,29,31],[23,24,25,28,29,31]] [[],[],[23],[24],[25],[],[],[28],[29],[],[31],[],[],[34],[35,25,29,31,34],[36]] (λ|24=>some<| .plain ⟨.own 1 ((aW [e.name]).map aT),true⟩|25=>some<| .plain ⟨.own 1 ((bN (aW [e.name])).map bD),true⟩|28=>some<| .plain ⟨.own 1 ((aW e.needs).map aT),true⟩|29=>some<| .plain ⟨.own 1 ((bN (aW e.needs)).map bD),true⟩|31=>some<| .plain ⟨.own 1 ((dN (dJ e.puts)).map bD),true⟩|34=>some<| .plain ⟨.own 1 ((dN e.drops).map bD),true⟩|36=>some<| .plain ⟨.own 1 ((eB e).map bD),true⟩|_=>none) ?_;simp[htk,t1,t2,t3,t4,t5,t6];refine⟨⟨⟨⟨⟨⟨⟨⟨f1,w1⟩,f2⟩,w2⟩,w3⟩,w4⟩,by decide⟩,hc⟩,?_⟩;refine aN ?_;have t7:List.take (eB e).length ((eB e).map bD)=(eB e).map bD:=List.take_of_length_le (by simp);simp[t7];intro a _ c hc;simp[bD,aK]at hc;subst hc;rfl
theorem BN(e:Ed)(h:Oi e):Ok Tryz.prog 19 [e.d] ⟨.own 1 ((eB e).map bD),true⟩:=by
 refine bE Tryz.func19 rfl Tryz.ntmps19 Tryz.results19 λw0 X hp=>?_;have hw1:=h.needs;have hw2:=h.puts;have hw3:=h.drops;refine aA ?_;simp;refine aA ?_;simp;refine aB ?_;refine aA ?_;simp;refine aF ?_;refine aJ (ι:=Nat) (λk=>aU [(1,.bx 1 0),(3,.ow 3 0 (2*k)),(4,.d (aT k))]) (λk=>aL [(1,.box false [.d (aT e.name.who),.d (aT e.name.seq),.d (bY e.needs),.d (jA e.puts),.d (cQ e.drops)]),(3,.row false 1 ((vJ e.puts k).map .str))]) (λk=>k<=e.puts.length) (λk=>e.puts.length-k) 0 (aC hp [1,3,4] [(1,1),(3,3)] (hH:=by simp[Da])) (Nat.zero_le _) λk hi3=>?_;refine aB ?_;refine aA ?_;simp;refine aD ?_;simp;refine⟨λh3=>?_,λh3=>?_⟩
 ·refine aH ?_;simp;refine aB ?_;refine aF ?_;have hk:k<e.puts.length:=by omega
  have hln:=xC (l:=e.puts) (k:=k) (by omega);have htk:List.take (2*k) ((vJ e.puts k).map DV.str)=(vJ e.puts k).map DV.str:=List.take_of_length_le (by simp[hln]);refine bI [[26]] [[],[],[],[],[],[],[],[],[],[],[],[],[],[26],[3,27]] (λ_=>none) ?_;simp[hk,htk];refine⟨by(repeat' with_reducible apply And.intro)<;>first|omega|(intros;rfl),?_⟩;refine aG ?_;simp;refine⟨by omega,?_⟩;refine aI (k+1) (aC hp [1,3,4] [(1,1),(27,3)] (by simp[show 2*k+2=2*(k+1)by omega]) (by simp[Db hk])) ?_ ?_
  ·omega
  ·omega
 ·refine aO ?_;simp;refine aB ?_;have hk:k=e.puts.length:=by omega
  subst hk;have hln:=xC (l:=e.puts) (Nat.le_refl _);rw[FT]at*;have htk:List.take (2*e.puts.length) ((dJ e.puts).map DV.str)=(dJ e.puts).map DV.str:=List.take_of_length_le (by simp[hln]);have f1:=Ai [e.name] (by simp);have f2:=Ai e.needs (by omega);have n1:=fR [e.name];have n2:=fR e.needs;have n3:[e.name].length=1:=rfl;have w1:=yF (aW [e.name]) (by rw[n1];simp) h.nm;have w2:=yF (aW e.needs) (by omega) (mV h.rng.needs);have w3:=xA (dJ e.puts) (by rw[jQ];omega) λs hs=>by have:=h.pt s hs;omega
  have w4:=xA e.drops (by omega) λs hs=>by have:=h.rng.drops s hs;omega
  have t1:List.take (aW [e.name]).length ((aW [e.name]).map aT)=(aW [e.name]).map aT:=List.take_of_length_le (by simp);have t2:List.take (aW e.needs).length ((aW e.needs).map aT)=(aW e.needs).map aT:=List.take_of_length_le (by simp);have t3:List.take (bN (aW [e.name])).length ((bN (aW [e.name])).map bD)=(bN (aW [e.name])).map bD:=List.take_of_length_le (by simp);have t4:List.take (bN (aW e.needs)).length ((bN (aW e.needs)).map bD)=(bN (aW e.needs)).map bD:=List.take_of_length_le (by simp);have t5:List.take (dN (dJ e.puts)).length ((dN (dJ e.puts)).map bD)=(dN (dJ e.puts)).map bD:=List.take_of_length_le (by simp);have t6:List.take (dN e.drops).length ((dN e.drops).map bD)=(dN e.drops).map bD:=List.take_of_length_le (by simp);have b1:=iJ (l:=aW [e.name]);have b2:=iJ (l:=aW e.needs);have b3:=mW h.pt;have b4:=mW h.rng.drops;have b5:(dJ e.puts).length*(2000+9)<=800*2009:=Nat.mul_le_mul (by rw[jQ];omega) (Nat.le_refl _);have b6:e.drops.length*(1000+9)<=400*1009:=Nat.mul_le_mul hw3 (Nat.le_refl _);refine bI [[],[],[],[],[],[30,31,32],[30,31,32]] [[],[],[30],[31],[32],[],[],[35],[36],[32,37]] (λ|31=>some<| .plain ⟨.own 1 ((aW [e.name]).map aT),true⟩|32=>some<| .plain ⟨.own 1 ((bN (aW [e.name])).map bD),true⟩|35=>some<| .plain ⟨.own 1 ((aW e.needs).map aT),true⟩|36=>some<| .plain ⟨.own 1 ((bN (aW e.needs)).map bD),true⟩|_=>none) ?_;simp[t1,t2,t3,t4];refine⟨⟨⟨⟨⟨f1,w1⟩,f2⟩,w2⟩,λ_ _=>rfl,by omega⟩,?_⟩;refine aB ?_;have t7:List.take ((bN (aW [e.name])).length+(bN (aW e.needs)).length) ((bN (aW [e.name])).map bD++(bN (aW e.needs)).map bD)=(bN (aW [e.name])).map bD++(bN (aW e.needs)).map bD:=List.take_of_length_le (by simp);refine bI [[40],[],[],[],[37,40,41],[37,40,41]] [[],[],[40],[41,37],[],[],[44],[45,41]] (λ|40=>some<| .plain ⟨.own 1 ((dN (dJ e.puts)).map bD),true⟩|44=>some<| .plain ⟨.own 1 ((dN e.drops).map bD),true⟩|_=>none) ?_;simp[htk,t3,t4,t5,t6,t7];refine⟨⟨⟨⟨w3,λ_ _=>rfl,by omega⟩,w4⟩,λ_ _=>rfl,by omega⟩,?_⟩
  refine aN ?_;have t8:List.take ((bN (aW [e.name])).length+(bN (aW e.needs)).length+(dN (dJ e.puts)).length) ((bN (aW [e.name])).map bD++((bN (aW e.needs)).map bD++(dN (dJ e.puts)).map bD))=(bN (aW [e.name])).map bD++((bN (aW e.needs)).map bD++(dN (dJ e.puts)).map bD):=List.take_of_length_le (by simp;omega);have t9:List.take ((bN (aW [e.name])).length+((bN (aW e.needs)).length+((dN (dJ e.puts)).length+(dN e.drops).length))) ((bN (aW [e.name])).map bD++((bN (aW e.needs)).map bD++((dN (dJ e.puts)).map bD++(dN e.drops).map bD)))=(bN (aW [e.name])).map bD++((bN (aW e.needs)).map bD++((dN (dJ e.puts)).map bD++(dN e.drops).map bD)):=List.take_of_length_le (by simp);simp[eB,t8,t9];refine⟨by omega,?_⟩;intro x hx c hc;rcases hx with⟨y,_,rfl⟩|⟨y,_,rfl⟩|⟨y,_,rfl⟩|⟨y,_,rfl⟩<;>(simp[bD,aK]at hc;subst hc;rfl)
end
section
attribute[local simp] iC iD jZ iE gH kA iF iG mI kB kC kD kE iR
attribute[local simp] mK lJ kI rA kJ kK fG iO.cond fA Dg dV iB mL mM iH rE rF rC iI iT nU kM kN rG rH mN kO kP tC tD oO oW jS nS
theorem HO(set:List Nm)(hl:set.length<=1000)(hr:∀n∈set,Gc n):Ok Tryz.prog 11 [bY set] ⟨.d (.agg (cN (zR 9 [toS (bN (aW (aY set)))]))),true⟩:=by
 refine sI Tryz.func11 rfl Tryz.ntmps11 Tryz.results11 λw0 X hp=>?_;have hsl:=fP set;have hsr:∀n∈aY set,Gc n:=λn hn=>hr n (((dC set).2 n).1 hn);have n1:=fR (aY set);have f1:=BM (aY set) (by omega);have w1:=xB (aW (aY set)) (by omega) (mV hsr);have b1:=iJ (l:=aW (aY set));have hO:=Oh 9 [toS (bN (aW (aY set)))] (by simp) (λs hs=>by rw[List.mem_singleton.1 hs,tW];omega);have hmb:=Ef (bN (aW (aY set)));have t0:List.take (aY set).length ((aY set).map Nm.d)=(aY set).map Nm.d:=List.take_of_length_le (by simp);have t1:List.take (aW (aY set)).length ((aW (aY set)).map aT)=(aW (aY set)).map aT:=List.take_of_length_le (by simp);have t2:List.take (bN (aW (aY set))).length ((bN (aW (aY set))).map bD)=(bN (aW (aY set))).map bD:=List.take_of_length_le (by simp);obtain⟨D,hD⟩:∃D,D=cN (zR 9 [toS (bN (aW (aY set)))]):=⟨_,rfl⟩;rw[<-hD]at hO;rw[<-hD];have hD16:D.length=16:=by rw[hD];simp[cN,tT]
 have hp16:∀Z:List LV,Z.length<=16->aQ 0 Z (D.map LV.d)=D.map LV.d:=λZ hZ=>cA (by rw[List.length_map,hD16];exact hZ);refine aA ?_;simp;refine aS hT hW (λ|4=>some<| .plain ⟨.own 2 ((aY set).map Nm.d),true⟩|5=>some<| .plain ⟨.own 1 ((aW (aY set)).map aT),true⟩|6=>some<| .plain ⟨.own 1 ((bN (aW (aY set))).map bD),true⟩|9=>some<| .plain ⟨.d (.agg D),true⟩|_=>none) ?_;simp[t0,t1,t2,hmb,hD16,hp16];refine⟨⟨⟨⟨⟨sR set (by omega),f1⟩,w1⟩,λ_ _=>⟨_,rfl⟩⟩,hO⟩,?_⟩;refine aN ?_;have htd:List.take 16 (D.map LV.d)=D.map LV.d:=List.take_of_length_le (by simp[hD16]);have hta:=dT D;simp[hD16,htd,hta];intro c hc;rw[hD]at hc;obtain⟨k,n,rfl⟩:=rB _ c hc;rfl
theorem HP(set:List Nm)(hl:set.length<=1000)(hr:∀n∈set,Gc n):Ok Tryz.prog 12 [bY set] ⟨.d (.agg (cN (zR 9 [toS (bN (aW (aY set)))]))),true⟩:=by
 refine sI Tryz.func12 rfl Tryz.ntmps12 Tryz.results12 λw0 X hp=>?_;have hsl:=fP set;have hsr:∀n∈aY set,Gc n:=λn hn=>hr n (((dC set).2 n).1 hn);have n1:=fR (aY set);have f1:=Ai (aY set) (by omega);have w1:=yF (aW (aY set)) (by omega) (mV hsr);have b1:=iJ (l:=aW (aY set));have hO:=NV 9 [toS (bN (aW (aY set)))] (by simp) (λs hs=>by rw[List.mem_singleton.1 hs,tW];omega);have hmb:=Ef (bN (aW (aY set)));have t0:List.take (aY set).length ((aY set).map Nm.d)=(aY set).map Nm.d:=List.take_of_length_le (by simp);have t1:List.take (aW (aY set)).length ((aW (aY set)).map aT)=(aW (aY set)).map aT:=List.take_of_length_le (by simp);have t2:List.take (bN (aW (aY set))).length ((bN (aW (aY set))).map bD)=(bN (aW (aY set))).map bD:=List.take_of_length_le (by simp);obtain⟨D,hD⟩:∃D,D=cN (zR 9 [toS (bN (aW (aY set)))]):=⟨_,rfl⟩;rw[<-hD]at hO;rw[<-hD];have hD16:D.length=16:=by rw[hD];simp[cN,tT]
 have hp16:∀Z:List LV,Z.length<=16->aQ 0 Z (D.map LV.d)=D.map LV.d:=λZ hZ=>cA (by rw[List.length_map,hD16];exact hZ);refine aA ?_;simp;refine aS hT hW (λ|4=>some<| .plain ⟨.d (bY (aY set)),true⟩|5=>some<| .plain ⟨.own 1 ((aW (aY set)).map aT),true⟩|6=>some<| .plain ⟨.own 1 ((bN (aW (aY set))).map bD),true⟩|9=>some<| .plain ⟨.d (.agg D),true⟩|_=>none) ?_;simp[t0,t1,t2,hmb,hD16,hp16];refine⟨⟨⟨⟨⟨zZ set (by omega),f1⟩,w1⟩,λ_ _=>⟨_,rfl⟩⟩,hO⟩,?_⟩;refine aN ?_;have htd:List.take 16 (D.map LV.d)=D.map LV.d:=List.take_of_length_le (by simp[hD16]);have hta:=dT D;simp[hD16,htd,hta];intro c hc;rw[hD]at hc;obtain⟨k,n,rfl⟩:=rB _ c hc;rfl
end
section
attribute[local simp] bA bW aQ aZ
def FU(a L1 L2 t:List Ed):List (List Ed):=[a,L1,L2,t,[]]
theorem Eh(l:List Int)(b:Int):(bC (dG (cR l) b)).length<=36:=by
 have h:=DU (f:=Ed.needs) (l:=dG (cR l) b) λx hx=>(nQ (vC.1 hx)).1;have:=jP l;rw[vB]at h;unfold bC;omega
theorem It{l:List Int}{L1 L2:List Ed}{b:Int}(h1:Ad (cR l) L1)(h2:Ad L1 L2){x:List Ed}(hx:x∈FU (cR l) L1 L2 (dG (cR l) b)):iL x/\(bC x).length<=1000/\x.length<=1000:=by
 have q:=DW h1 h2;simp only[FU,List.mem_cons,List.not_mem_nil,or_false]at hx;rcases hx with rfl|rfl|rfl|rfl|rfl
 ·exact⟨By l,by have:=qV l;omega,by have:=jP l;omega⟩
 ·exact⟨λe he=>by have:=q.part1 e he;omega,by have:=q.need1;omega,by have:=q.len1;omega⟩
 ·exact⟨λe he=>by have:=q.part2 e he;omega,by have:=q.need2;omega,by have:=q.len2;omega⟩
 ·refine⟨λe he=>by have:=nQ (vC.1 he);omega,by have:=Eh l b;omega,?_⟩;rw[vB];have:=jP l;omega
 ·exact⟨λe he=>(by cases he),by simp[bC],by simp⟩
end
section
attribute[local simp] bA bW aQ aZ
attribute[local simp] iO.cond bD
theorem FV(a b:List Nat):Ok Tryz.prog 18 [.sl (a.map bD),.sl (b.map bD)] ⟨.d (.bool (decide (a=b))),true⟩:=by
 refine bE Tryz.func18 rfl Tryz.ntmps18 Tryz.results18 λw0 X hp=>?_;refine eG.len (t:=0) rfl λhlen=>?_;simp at hlen;refine aA ?_;simp;refine aB ?_;refine aA ?_;simp;refine aD ?_;simp;refine⟨λh1=>?_,λh1=>?_⟩
 ·refine aA ?_;simp;refine aN ?_;simp;exact λe=>h1 (by rw[e])
 ·refine aH ?_;simp;refine aB ?_;refine aA ?_;simp;refine aF ?_;refine aJ (ι:=Nat) (λi=>aU [(0,.d (.sl (a.map bD))),(1,.d (.sl (b.map bD))),(5,.d (aT i))]) (λi=>aL []) (λi=>i<=a.length/\a.take i=b.take i) (λi=>a.length-i) 0 (aC hp [0,1,5] []) (by simp) λi hi4=>?_;refine aB ?_;refine aA ?_;simp;refine aD ?_;simp;refine⟨λh4=>?_,λh4=>?_⟩
  ·refine aH ?_;simp;refine aB ?_;refine aF ?_;refine aB ?_;refine bI [] [] (λ_=>none) ?_;simp[h4,show i<b.length by omega];refine aD ?_;simp;refine⟨λh6=>?_,λh6=>?_⟩
   ·refine aA ?_;simp;refine aN ?_;simp;intro e;subst e;simp at h6
   ·refine aH ?_;simp;refine aG ?_;simp;refine⟨by omega,?_⟩;refine aI (i+1) (aC hp [0,1,5] []) ?_ ?_
    ·exact⟨h4,gF hi4.2 h4 (by omega) (by omega)⟩
    ·omega
  ·refine aO ?_;simp;refine aA ?_;simp;refine aN ?_;have hi:i=a.length:=by omega
   have h2:=hi4.2;rw[hi,List.take_length,List.take_of_length_le (by omega)]at h2;simp[h2]
end
end Go.Eng
