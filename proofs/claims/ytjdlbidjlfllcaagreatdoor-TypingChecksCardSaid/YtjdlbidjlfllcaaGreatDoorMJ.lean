/- Part 10 of the proof. No condition. -/
import Derived.Test.YtjdlbidjlfllcaaGreatDoorMI
open Go.Proofs
set_option linter.unusedVariables false
set_option linter.unusedSimpArgs false
set_option maxRecDepth 20000
set_option maxHeartbeats 4000000
namespace Go.Eng
section
attribute[local simp] jO.cond Nd.d_eq nd_t nd_dr nd_td ndsD aQ bD
theorem Hj(a b:List Df)(ha:a.length<=1000000000000):Ok Tryz.prog 14 [eM a,eM b] ⟨.d (.bool (decide (a=b))),true⟩:=by
 refine aZ Tryz.func14 rfl Tryz.ntmps14 Tryz.results14 λw0 X hp=>?_;refine aA ?_;simp;refine aD ?_;refine aA ?_;simp;refine aC ?_;simp;refine⟨λh1=>?_,λh1=>?_⟩
 ·refine aA ?_;simp;refine aF ?_;simp;exact λe=>h1 (by rw[e])
 ·refine aE ?_;simp;refine aD ?_;refine aA ?_;simp;refine aH ?_;refine aR (ι:=Nat) (λi=>aO [(0,.d (eM a)),(1,.d (eM b)),(5,.d (aG (i:Nat)))]) (λi=>aI []) (λi=>i<=a.length/\a.take i=b.take i) (λi=>a.length-i) 0 (aB hp [0,1,5] []) (⟨Nat.zero_le _,rfl⟩) λi hi4=>?_;refine aD ?_;refine aA ?_;simp;refine aC ?_;simp;refine⟨λh4=>?_,λh4=>?_⟩
  ·refine aE ?_;simp;refine aD ?_;refine aH ?_;refine aD ?_;have hi:i<a.length:=by omega
   have hib:i<b.length:=(by omega);refine eF.rd [] [] (λ_=>none) ?_;simp[hi,hib];refine aC ?_;simp;refine⟨λh6=>?_,λh6=>?_⟩
   ·refine aA ?_;simp;refine aF ?_;simp;intro e;subst e;simp at h6
   ·refine aE ?_;simp;refine aJ ?_;simp;refine⟨by omega,?_⟩;refine Nf.mk (i+1) (aB hp [0,1,5] []) ?_ ?_
    ·refine⟨by omega,?_⟩;rw[List.take_succ_eq_append_getElem hi,List.take_succ_eq_append_getElem hib,hi4.2,h6]
    ·omega
  ·refine bA ?_;simp;refine aA ?_;simp;refine aF ?_;simp;have e:i=a.length:=by omega
   have:=hi4.2;rw[e,List.take_length]at this;have h1':a.length=b.length:=by omega
   rw[this,h1',List.take_length]
end
section
attribute[local simp] jO.cond Nd.d_eq nd_t nd_dr nd_td ndsD aQ bD bL
theorem rF(n:Int)(h1: -999<=n)(h2:n<=999):Ok Tryz.prog 57 [aG n] ⟨.d (.str (itoaS n)),true⟩:=by
 refine aZ Tryz.func57 rfl Tryz.ntmps57 Tryz.results57 λw0 X hp=>?_;refine aA ?_;simp;refine aX hT hW (λ|4=>some<| .plain ⟨.d (.str (itoaS n)),true⟩|_=>none) ?_;simp;refine⟨iL n h1 h2,?_⟩;refine aF ?_;simp
def Qu(word letter:aM)(i:Int)(text:aM):Df:=⟨letter++itoaS i,word++[32]++(letter++itoaS i)++text⟩
theorem TN(word letter:aM)(i:Int)(text:aM)(h1: -999<=i)(h2:i<=999)(hi:(itoaS i).length<=1000)(hw:word.length<=1000)(hle:letter.length<=1000)(ht:text.length<=1000000):Ok Tryz.prog 142 [.str word,.str letter,aG i,.str text] ⟨.d (Qu word letter i text).d,false⟩:=by
 refine Nu Tryz.func142 rfl Tryz.ntmps142 Tryz.results142 λw0 X hp=>?_;refine aA ?_;simp;refine aX hT hW (λ|12=>some<| .plain ⟨.d (.str (itoaS i)),true⟩|_=>none) ?_;simp;refine⟨⟨rF i h1 h2,by omega⟩,?_⟩;refine aA ?_;simp;refine⟨⟨⟨by omega,by omega⟩,by omega⟩,?_⟩;refine aF ?_;simp[Qu,Df.d]
def oY(n:Nat)(b:Int)(i:Nat):Nat:=let k:=(i+(bE b (n:Int)).toNat)%n;if b.tmod 2≠0 then n-1-k else k
def mV(l:List Df)(b:Int):List Df:=(List.range l.length).map λi=>l.getD (oY l.length b i) default
theorem Mr(l:List Df)(b:Int)(hl:l.length<=1000000)(h1: -9223372036854775808<=b)(h2:b<=9223372036854775807):Ok Tryz.prog 55 [eM l,aG b] ⟨.own 2 ((mV l b).map Df.d),true⟩:=by
 refine aZ Tryz.func55 rfl Tryz.ntmps55 Tryz.results55 λw0 X hp=>?_;have htl:(mV l b).length=l.length:=by simp[mV]
 refine aA ?_;simp;refine aA ?_;simp;refine aD ?_;refine aA ?_;simp;refine aH ?_;refine aR (ι:=Nat) (λi=>aO [(0,.d (eM l)),(1,.d (aG b)),(5,.ow 5 0 i),(6,.d (aG (i:Nat)))]) (λi=>aI [(5,.row false 2 (((mV l b).take i).map Df.d))]) (λi=>i<=l.length) (λi=>l.length-i) 0 (aB hp [0,1,5,6] [(5,5)]) (Nat.zero_le _) λi hi3=>?_;refine aD ?_;refine aA ?_;simp;refine aC ?_;simp;refine⟨λh3=>?_,λh3=>?_⟩
 ·refine aE ?_;simp;refine aD ?_;refine aH ?_;refine aD ?_;have hi:i<l.length:=by omega
  have ka:=dV b (l.length:Int) h1 h2 (by omega);have kl:=dD b (l.length:Int) (by omega);obtain⟨m,hm⟩:∃m:Nat,bE b (l.length:Int)=(m:Int):=⟨(bE b (l.length:Int)).toNat,by omega⟩;rw[hm]at ka kl;have hmod:((i:Int)+(m:Int)).tmod (l.length:Int)=(((i+m)%l.length:Nat):Int):=by rw[<-Int.natCast_add];rfl
  have hne:l≠[]:=λe=>by rw[e]at hi;simp at hi
  have hkl:(i+m)%l.length<l.length:=Nat.mod_lt _ (by omega);obtain⟨k,hk⟩:∃k,(i+m)%l.length=k:=⟨_,rfl⟩;rw[hk]at hmod hkl;have hti:oY l.length b i=if b.tmod 2≠0 then l.length-1-k else k:=by unfold oY;rw[hm];simp only[Int.toNat_natCast,hk]
  refine eF.ro hT hW (λ|18=>some<| .plain ⟨.d (aG (m:Int)),true⟩|_=>none) ?_;simp[hmod];refine⟨⟨⟨by simpa using ka,by omega,by omega⟩,hne⟩,?_⟩;refine aP (ι:=Unit) (λw=>aO [(0,.d (eM l)),(1,.d (aG b)),(5,.ow 5 0 i),(6,.d (aG (i:Nat))),(7,.d (aG ((oY l.length b i:Nat):Int)))]) (λw=>aI [(5,.row false 2 (((mV l b).take i).map Df.d))]) (λw=>True) ?_ λw hc8=>?_
  ·refine aA ?_;simp;refine aC ?_;simp;refine⟨λh6=>?_,λh6=>?_⟩
   ·have ht:oY l.length b i=l.length-1-k:=(by rw[hti,if_pos h6]);refine aJ ?_;simp;refine⟨⟨by omega,by omega⟩,?_⟩;exact(aB hp [0,1,5,6,7] [(5,5)] (by simp[ht,show(l.length:Int)- 1-(k:Int)=((l.length-1-k:Nat):Int)by omega]))
   ·have ht:oY l.length b i=k:=by rw[hti,if_neg (by simpa using h6)]
    refine aE ?_;simp;exact(aB hp [0,1,5,6,7] [(5,5)] (by simp[ht]))
  ·have htn:oY l.length b i<l.length:=by rw[hti];split<;>omega
   obtain⟨x,hx⟩:∃x,l[oY l.length b i]=x:=⟨_,rfl⟩;have hns:(mV l b).take (i+1)=(mV l b).take i++[x]:=by
    rw[List.take_succ_eq_append_getElem (by omega)];simp[mV,List.getElem?_eq_getElem htn,hx]
   have hnd:List.take (i+1) (List.map Df.d (mV l b))=List.take i (List.map Df.d (mV l b))++[x.d]:=(by rw[<-List.map_take,hns,List.map_append,List.map_take];rfl);refine aJ ?_;simp[htn,hx];refine⟨⟨by omega,by omega⟩,?_⟩;refine aJ ?_;simp;refine⟨by omega,?_⟩;refine Nf.mk (i+1) (aB hp [0,1,5,6] [(37,5)] (hH:=by simp[hnd,List.take_take,Df.d])) ?_ ?_
   ·omega
   ·omega
 ·refine bA ?_;simp;refine aA ?_;simp;refine aF ?_;have e:i=l.length:=by omega
  have htk:List.take l.length (List.map Df.d (mV l b))=List.map Df.d (mV l b):=List.take_of_length_le (by rw[List.length_map,htl];exact Nat.le_refl _);simp[e,htl,htk]
end
structure R3 where
 w:aM
 l:aM
 t:aM
def R3.d(r:R3):DV:=.agg [.str r.w,.str r.l,.str r.t]
def Qv(i:Nat)(rows:List R3):List Df:=rows.map λr=>Qu r.w r.l (i:Int) (kP r.t i)
def TO:List aM:=[[120,35,32,61,61,32,50],[49,32,60,61,32,120,35],[120,35,32,60,32,50],[120,35,32,61,61,32,51]]
def DJ:List aM:=[[97,99,113,117,105,114,101,32,97,35,59,32,97,99,113,117,105,114,101,32,98,35,59,32,114,101,108,101,97,115,101,32,98,35,59,32,114,101,108,101,97,115,101,32,97,35,59],[97,99,113,117,105,114,101,32,98,35,59,32,97,99,113,117,105,114,101,32,97,35,59,32,114,101,108,101,97,115,101,32,97,35,59,32,114,101,108,101,97,115,101,32,98,35,59]]
def TP:List aM:=[[36,97,32,60,32,36,98],[36,98,32,60,32,36,97]]
def JB:List aM:=[[36,97,32,61,61,32,36,98],[36,97,32,43,32,36,98,32,60,32,51]]
def DK:List aM:=[[],[32,119,114,105,116,101,32,102,35,32,55,59]]
def JC:List aM:=[[32,123,32,99,104,101,99,107,32,115,104,97,114,101,100,32,61,61,32,48,59,32,115,104,97,114,101,100,32,61,32,49,59,32,125],[32,123,32,115,104,97,114,101,100,32,61,32,115,104,97,114,101,100,32,43,32,49,59,32,99,104,101,99,107,32,115,104,97,114,101,100,32,60,32,50,59,32,125]]
def JD:List aM:=[[49],[36,97,32,61,61,32,48]]
def sM(v:Nat):aM:=TO.getD (v / 2%4) []
def gV(v:Nat):aM:=DJ.getD (v%2) []
def sX(v:Nat):aM:=TP.getD (v / 2%2) []
def lK(v:Nat):aM:=JB.getD (v / 2%2) []
def gW(v:Nat):aM:=DK.getD (v%2) []
def lL(v:Nat):aM:=JC.getD (v%2) []
def lM(v:Nat):aM:=JD.getD (v / 9%2) []
def cC(v:Nat):Nat->List R3
 |0=>[⟨[118,97,114],[120],[32,61,32]++itoaS ((v%2:Nat):Int)++[59]⟩,⟨[99,104,97,110],[99],[32,49,59]⟩,⟨[112,114,111,99],[112],[32,123,32,120,35,32,61,32,120,35,32,43,32,49,59,32,115,101,110,100,32,99,35,32,49,59,32,125]⟩,⟨[116,101,115,116],[116],[32,123,32,103,111,32,112,35,59,32,120,35,32,61,32,120,35,32,43,32,49,59,32,114,101,99,118,32,99,35,32,36,97,59,32,99,104,101,99,107,32]++sM v++[59,32,125]⟩]
 |1=>[⟨[118,97,114],[120],[32,61,32]++itoaS ((v%2:Nat):Int)++[59]⟩,⟨[108,111,99,107],[109],[59]⟩,⟨[99,104,97,110],[99],[32,49,59]⟩,⟨[112,114,111,99],[112],[32,123,32,97,99,113,117,105,114,101,32,109,35,59,32,120,35,32,61,32,120,35,32,43,32,49,59,32,114,101,108,101,97,115,101,32,109,35,59,32,115,101,110,100,32,99,35,32,49,59,32,125]⟩,⟨[116,101,115,116],[116],[32,123,32,103,111,32,112,35,59,32,97,99,113,117,105,114,101,32,109,35,59,32,120,35,32,61,32,120,35,32,43,32,49,59,32,114,101,108,101,97,115,101,32,109,35,59,32,114,101,99,118,32,99,35,32,36,97,59,32,99,104,101,99,107,32]++sM v++[59,32,125]⟩]
 |2=>[⟨[99,104,97,110],[113],[32]++itoaS ((1+v%2:Nat):Int)++[59]⟩,⟨[112,114,111,99],[112],[32,123,32,115,101,110,100,32,113,35,32,49,59,32,115,101,110,100,32,113,35,32,50,59,32,125]⟩,⟨[116,101,115,116],[116],[32,123,32,103,111,32,112,35,59,32,114,101,99,118,32,113,35,32,36,97,59,32,114,101,99,118,32,113,35,32,36,98,59,32,99,104,101,99,107,32]++sX v++[59,32,125]⟩]
 |3=>[⟨[99,104,97,110],[114],[32,48,59]⟩,⟨[99,104,97,110],[99],[32,49,59]⟩,⟨[118,97,114],[120],[32,61,32,48,59]⟩,⟨[112,114,111,99],[112],[32,123,32,114,101,99,118,32,114,35,32,36,118,59,32,120,35,32,61,32,49,59,32,115,101,110,100,32,99,35,32,49,59,32,125]⟩,⟨[112,114,111,99],[111],[32,123,32,114,101,99,118,32,114,35,32,36,118,59,32,120,35,32,61,32,50,59,32,115,101,110,100,32,99,35,32,49,59,32,125]⟩,⟨[116,101,115,116],[116],[32,123,32,103,111,32,112,35,59,32,103,111,32,111,35,59,32,115,101,110,100,32,114,35,32,53,59,32,114,101,99,118,32,99,35,32,36,97,59,32,99,104,101,99,107,32,120,35,32,61,61,32]++itoaS ((1+v%2:Nat):Int)++[59,32,125]⟩]
 |4=>[⟨[108,111,99,107],[97],[59]⟩,⟨[108,111,99,107],[98],[59]⟩,⟨[99,104,97,110],[99],[32,49,59]⟩,⟨[112,114,111,99],[112],[32,123,32,97,99,113,117,105,114,101,32,98,35,59,32,97,99,113,117,105,114,101,32,97,35,59,32,114,101,108,101,97,115,101,32,97,35,59,32,114,101,108,101,97,115,101,32,98,35,59,32,115,101,110,100,32,99,35,32,49,59,32,125]⟩,⟨[116,101,115,116],[116],[32,123,32,103,111,32,112,35,59,32]++gV v++[32,114,101,99,118,32,99,35,32,36,120,59,32,125]⟩]
 |5=>[⟨[99,104,97,110],[99],[32,49,59]⟩,⟨[112,114,111,99],[112],[32,123,32,100,114,97,119,32,36,97,32]++itoaS ((2+v%2:Nat):Int)++[59,32,115,101,110,100,32,99,35,32,36,97,59,32,125]⟩,⟨[116,101,115,116],[116],[32,123,32,103,111,32,112,35,59,32,100,114,97,119,32,36,98,32,50,59,32,114,101,99,118,32,99,35,32,36,97,59,32,99,104,101,99,107,32]++lK v++[59,32,125]⟩]
 |6=>[⟨[116,101,115,116],[116],[32,123,32,100,114,97,119,32,36,97,32,51,59,32,100,114,97,119,32,36,98,32,50,59,32,99,104,101,99,107,32,36,97,32,42,32,36,98,32,60,32]++itoaS ((1+v%3:Nat):Int)++[59,32,125]⟩]
 |7=>[⟨[116,101,115,116],[116],[32,123,32,110,111,119,32,36,97,59,32,115,108,101,101,112,32,50,59,32,110,111,119,32,36,98,59,32,99,104,101,99,107,32,36,98,32,45,32,36,97,32,60,32]++itoaS ((3+v%3:Nat):Int)++[59,32,125]⟩]
 |8=>[⟨[102,105,108,101],[102],[59]⟩,⟨[116,101,115,116],[116],[32,123,32,119,114,105,116,101,32,102,35,32,55,59]++gW v++[32,114,101,97,100,32,102,35,32,36,97,59,32,99,104,101,99,107,32,36,97,32,61,61,32,55,59,32,125]⟩]
 |9=>[⟨[116,101,115,116],[116],lL v⟩]
 |10=>[⟨[118,97,114],[120],[32,61,32,48,59]⟩,⟨[116,101,115,116],[116],[32,123,32,119,104,105,108,101,32,36,105,32,60,32]++itoaS ((1+v%3:Nat):Int)++[32,123,32,120,35,32,61,32,120,35,32,43,32,49,59,32,36,105,32,61,32,36,105,32,43,32,49,59,32,125,32,99,104,101,99,107,32,120,35,32,61,61,32,50,59,32,125]⟩]
 |11=>[⟨[116,101,115,116],[116],[32,123,32,105,102,32,107,105,110,100,32,61,61,32]++itoaS ((v%3:Nat):Int)++[32,123,32,100,114,97,119,32,36,97,32,50,59,32,99,104,101,99,107,32,36,97,32,61,61,32,48,59,32,125,32,125]⟩]
 |12=>[⟨[114,101,99],[103],[32,123,32,97,32,61,32,49,59,32,98,32,61,32,50,59,32,125]⟩,⟨[112,114,111,99],[104],[32,123,32,103,35,46,97,32,61,32,103,35,46,98,32,43,32,49,59,32,125]⟩,⟨[116,101,115,116],[116],[32,123,32,99,97,108,108,32,104,35,59,32,99,97,108,108,32,104,35,59,32,99,104,101,99,107,32,103,35,46,97,32,61,61,32]++itoaS ((2+v%3:Nat):Int)++[59,32,125]⟩]
 |_=>[⟨[116,101,115,116],[116],[32,123,32,100,114,97,119,32,36,97,32,50,59,32,105,102,32,36,97,32,123,32,97,108,108,111,99,32,53,59,32,115,108,101,101,112,32,50,59,32,110,111,119,32,36,98,59,32,125,32,101,108,115,101,32,123,32,97,108,108,111,99,32]++itoaS ((1+v%9:Nat):Int)++[59,32,125,32,99,104,101,99,107,32]++lM v++[59,32,125]⟩]
def fI(k i v:Nat):List Df:=Qv i (cC v k)
def eY:Df:=⟨[115,104,97,114,101,100],[118,97,114,32,115,104,97,114,101,100,32,61,32,48,59]⟩
def Qw(l:List Int)(st:List Df×Bool)(i:Nat):List Df×Bool:=
 let n:=(dH l (1+i) 4096).toNat
 let out:=st.1++fI (n%14) i (n / 14)
 if n%14=9/\st.2=false then(out++[eY],true)else(out,st.2)
def sY(l:List Int):Nat:=1+(dH l 0 3).toNat
def kD(l:List Int)(k:Nat):List Df×Bool:=(List.range k).foldl (Qw l) ([],false)
def zG(l:List Int):List Df:=mV (kD l (sY l)).1 (dH l 4 64)
section
attribute[local simp] jO.cond Nd.d_eq nd_t nd_dr nd_td ndsD aQ bD bL
theorem FI(s:aM)(i:Nat):(kP s i).length=s.length:=by simp[kP]
theorem Ms(s:aM)(i:Nat)(hi:i<=9)(hs:s.length<=1000000000):Ok Tryz.prog 143 [.str s,aG i] ⟨.d (.str (kP s i)),true⟩:=by
 refine aZ Tryz.func143 rfl Tryz.ntmps143 Tryz.results143 λw0 X hp=>?_;refine aA ?_;simp;have iop:∀{op:Op} {d:Option Nat} {t:TypeId} {p:String} {af:Array Edge},lW ⟨d,op,t,p,af,none⟩ op d:=⟨rfl,rfl,rfl⟩;refine Pl hT (by kernel_rfl) (by kernel_rfl) (by kernel_rfl) (by kernel_rfl) (λw=>cG (w:=w) hT (t:=5) rfl) rfl rfl rfl iop iop iop iop iop iop iop iop iop iop iop iop iop iop iop iop iop iop iop iop iop iop iop iop iop iop (s:=s) (i:=i) (by simp) (by simp) hi hs ?_;simp
theorem Xu{l:List R3}{y:DV}(h:y∈l.map R3.d):(aK y).length=3:=by obtain⟨u,_,rfl⟩:=List.mem_map.1 h;rfl
theorem Xv{l:List R3}:(∀y∈List.map R3.d l,(aK y).length=3)↔True:=iff_true_intro λ_ h=>Xu h
theorem Xw{u:R3}:(aK u.d).length=3:=rfl
attribute[local simp] Xv Xw R3.d
theorem Hk(i:Nat)(r:List R3):(Qv i r).length=r.length:=by simp[Qv]
theorem Xx(i:Nat)(r:List R3)(hi:i<=9)(hl:r.length<=1000)(hr:∀x∈r,x.w.length<=1000/\x.l.length<=1000/\x.t.length<=1000000):Ok Tryz.prog 90 [aG i,.sl (r.map R3.d)] ⟨.own 2 ((Qv i r).map Df.d),true⟩:=by
 refine aZ Tryz.func90 rfl Tryz.ntmps90 Tryz.results90 λw0 X hp=>?_;refine aA ?_;simp;refine aA ?_;simp;refine aD ?_;refine aA ?_;simp;refine aH ?_;refine aR (ι:=Nat) (λk=>aO [(0,.d (aG (i:Nat))),(1,.d (.sl (r.map R3.d))),(5,.ow 5 0 k),(6,.d (aG (k:Nat)))]) (λk=>aI [(5,.row false 2 (((Qv i r).take k).map Df.d))]) (λk=>k<=r.length) (λk=>r.length-k) 0 (aB hp [0,1,5,6] [(5,5)]) (Nat.zero_le _) λk hi3=>?_;refine aD ?_;refine aA ?_;simp;refine aC ?_;simp;refine⟨λh3=>?_,λh3=>?_⟩
 ·refine aE ?_;simp;refine aD ?_;refine aH ?_;have hk:k<r.length:=by omega
  obtain⟨x,hx⟩:∃x,r[k]=x:=⟨_,rfl⟩;obtain⟨hw,hle,ht⟩:=hr x (hx▸List.getElem_mem hk);have kf:=Ms x.t i hi (by omega);have kd:=TN x.w x.l (i:Int) (kP x.t i) (by omega) (by omega) (by have:=bV (i:Int);omega) hw hle (by rw[FI];omega);have hns:(Qv i r).take (k+1)=(Qv i r).take k++[Qu x.w x.l (i:Int) (kP x.t i)]:=by
   rw[List.take_succ_eq_append_getElem (by rw[Hk];exact hk)];simp[Qv,hx]
  have hnd:List.take (k+1) (List.map Df.d (Qv i r))=List.take k (List.map Df.d (Qv i r))++[(Qu x.w x.l (i:Int) (kP x.t i)).d]:=by rw[<-List.map_take,hns,List.map_append,List.map_take];rfl
  refine eF.rd [[31,32,33],[31],[31],[31],[31],[31],[31],[31],[31],[31],[31],[31]] [[],[],[],[],[],[],[],[],[],[],[],[],[],[],[],[],[],[],[31],[32],[33],[5,34]] (λ|31=>some<| .plain ⟨.d (.str (kP x.t i)),true⟩|32=>some<| .plain ⟨.d (Qu x.w x.l (i:Int) (kP x.t i)).d,false⟩|_=>none) ?_;simp[hk,hx];refine⟨⟨⟨by simpa using kf,by simpa using kd⟩,by omega⟩,?_⟩;refine aJ ?_;simp;refine⟨by omega,?_⟩;refine Nf.mk (k+1) (aB hp [0,1,5,6] [(34,5)] (hH:=by simp[hnd,List.take_take,Df.d])) ?_ ?_
  ·omega
  ·omega
 ·refine bA ?_;simp;refine aA ?_;simp;refine aF ?_;have e:k=r.length:=by omega
  have htk:List.take r.length (List.map Df.d (Qv i r))=List.map Df.d (Qv i r):=List.take_of_length_le (by rw[List.length_map,Hk];exact Nat.le_refl _);simp[e,htk,Hk]
end
section
attribute[local simp] jO.cond Nd.d_eq nd_t nd_dr nd_td ndsD aQ bD bL Xv Xw R3.d
theorem cS{L:List aM}{k b:Nat}(h:∀w∈L,w.length<=b):(L.getD k []).length<=b:=by
 rw[List.getD_eq_getElem?_getD];cases e:L[k]? with
 |none=>exact Nat.zero_le _
 |some w=>exact h w (List.mem_of_getElem? e)
theorem uP{L:List aM}{k:Nat}(h:k<L.length):(L.map DV.str)[k]?.getD default=.str (L.getD k []):=by
 rw[List.getElem?_map,List.getElem?_eq_getElem h];simp[List.getD_eq_getElem?_getD,h]
theorem NZ:∀w∈TO,w.length<=60:=by decide
theorem FJ:∀w∈DJ,w.length<=60:=by decide
theorem Oa:∀w∈TP,w.length<=60:=by decide
theorem JE:∀w∈JB,w.length<=60:=by decide
theorem FK:∀w∈DK,w.length<=60:=by decide
theorem JF:∀w∈JC,w.length<=60:=by decide
theorem JG:∀w∈JD,w.length<=60:=by decide
theorem uQ(v k:Nat):(cC v k).length<=6/\∀x∈cC v k,x.w.length<=1000/\x.l.length<=1000/\x.t.length<=1000:=by
 have i1:=bV ((v%2:Nat):Int);have i2:=bV ((1+v%2:Nat):Int);have i3:=bV ((2+v%2:Nat):Int);have i4:=bV ((v%3:Nat):Int);have i5:=bV ((1+v%3:Nat):Int);have i6:=bV ((2+v%3:Nat):Int);have i7:=bV ((3+v%3:Nat):Int);have i8:=bV ((1+v%9:Nat):Int);have l0:(sM v).length<=60:=cS NZ;have l1:(gV v).length<=60:=cS FJ;have l2:(sX v).length<=60:=cS Oa;have l3:(lK v).length<=60:=cS JE;have l4:(gW v).length<=60:=cS FK;have l5:(lL v).length<=60:=cS JF;have l6:(lM v).length<=60:=cS JG;unfold cC;split<;>(simp only[List.forall_mem_cons,List.length_append,List.length_cons,List.length_nil,List.not_mem_nil,false_imp_iff,implies_true,and_true];(repeat' with_reducible apply And.intro)<;>omega)
theorem lF(k i v:Nat)(hi:i<=9):Ok Tryz.prog 90 [aG i,.sl ((cC v k).map R3.d)] ⟨.own 2 ((fI k i v).map Df.d),true⟩:=
 Xx i (cC v k) hi (by have:=(uQ v k).1;omega) λx hx=>by have:=(uQ v k).2 x hx;omega
theorem JH(k i v:Nat)(hk:k<6)(hi:i<=9)(hv:v<=1000000):Ok Tryz.prog 89 [aG k,aG i,aG v] ⟨.own 2 ((fI k i v).map Df.d),true⟩:=by
 refine aZ Tryz.func89 rfl Tryz.ntmps89 Tryz.results89 λw0 X hp=>?_;obtain⟨m2,q2⟩:∃m:Nat,v%2=m:=⟨_,rfl⟩;obtain⟨m3,q3⟩:∃m:Nat,v%3=m:=⟨_,rfl⟩;obtain⟨m9,q9⟩:∃m:Nat,v%9=m:=⟨_,rfl⟩;obtain⟨m4,q4⟩:∃m:Nat,v / 2%4=m:=⟨_,rfl⟩;obtain⟨n2,g2⟩:∃m:Nat,v / 2%2=m:=⟨_,rfl⟩;obtain⟨n9,g9⟩:∃m:Nat,v / 9%2=m:=⟨_,rfl⟩;have e2:(v:Int).tmod 2=(m2:Int):=by rw[<-q2];rfl
 have e3:(v:Int).tmod 3=(m3:Int):=by rw[<-q3];rfl
 have e9:(v:Int).tmod 9=(m9:Int):=by rw[<-q9];rfl
 have e4:((v:Int) / 2).tmod 4=(m4:Int):=by rw[<-q4];rfl
 have d2:((v:Int) / 2).tmod 2=(n2:Int):=by rw[<-g2];rfl
 have d9:((v:Int) / 9).tmod 2=(n9:Int):=by rw[<-g9];rfl
 have b2:(v:Int) / 2<=v:=by omega
 have b9:(v:Int) / 9<=v:=by omega
 refine aA ?_;simp;refine aD ?_;obtain⟨two,htwo⟩:∃x,sM v=x:=⟨_,rfl⟩;have ltwo:two.length<=60:=by rw[<-htwo];exact cS NZ
 have ctwo:=uP (L:=TO) (k:=m4) (by show _<4;omega);rw[show TO.getD m4 []=two by rw[<-htwo];simp only[sM,q2,q4,g2,g9]]at ctwo;simp[TO]at ctwo;refine aJ ?_;simp[e2,e3,e9,e4,d2,d9,ctwo];refine⟨by(repeat' with_reducible apply And.intro)<;>first|omega|rfl,?_⟩;refine aD ?_;obtain⟨order,horder⟩:∃x,gV v=x:=⟨_,rfl⟩;have lorder:order.length<=60:=by rw[<-horder];exact cS FJ
 have corder:=uP (L:=DJ) (k:=m2) (by show _<2;omega);rw[show DJ.getD m2 []=order by rw[<-horder];simp only[gV,q2,q4,g2,g9]]at corder;simp[DJ]at corder;refine aJ ?_;simp[e2,e3,e9,e4,d2,d9,corder];refine⟨by(repeat' with_reducible apply And.intro)<;>first|omega|rfl,?_⟩;refine aD ?_;obtain⟨row,hrow⟩:∃x,sX v=x:=⟨_,rfl⟩;have lrow:row.length<=60:=by rw[<-hrow];exact cS Oa
 have crow:=uP (L:=TP) (k:=n2) (by show _<2;omega);rw[show TP.getD n2 []=row by rw[<-hrow];simp only[sX,q2,q4,g2,g9]]at crow;simp[TP]at crow;refine aJ ?_;simp[e2,e3,e9,e4,d2,d9,crow];refine⟨by(repeat' with_reducible apply And.intro)<;>first|omega|rfl,?_⟩;refine aD ?_;refine aA ?_;simp;refine aH ?_;refine aA ?_;simp;refine aC ?_;simp;refine⟨λh5=>?_,λh5=>?_⟩
 ·have ek:k=0:=by omega
  subst ek;refine aD ?_;obtain⟨P,hP⟩:∃P,fI 0 i v=P:=⟨_,rfl⟩;have kf:=lF 0 i v hi;rw[hP]at kf;have kd:=rF ((m2:Nat):Int) (by omega) (by omega);have il:=bV ((m2:Nat):Int);obtain⟨dg,hdg⟩:∃x,itoaS ((m2:Nat):Int)=x:=⟨_,rfl⟩;rw[hdg]at kd il;simp only[cC,q2,q3,q9,htwo,hdg]at kf;simp at kf kd;refine eF.ro hT hW (λ|33=>some<| .plain ⟨.d (.str dg),true⟩|44=>some<| .plain ⟨.own 2 (P.map Df.d),true⟩|_=>none) ?_;simp[e2,e3,e9,e4,d2,d9];refine⟨by(repeat' with_reducible apply And.intro)<;>first|omega|with_reducible assumption|rfl|simpa using kf,?_⟩;refine aF ?_;simp[hP]
 ·refine aA ?_;simp;refine aC ?_;simp;refine⟨λh7=>?_,λh7=>?_⟩
  ·have ek:k=1:=(by omega);subst ek;refine aD ?_;obtain⟨P,hP⟩:∃P,fI 1 i v=P:=⟨_,rfl⟩;have kf:=lF 1 i v hi;rw[hP]at kf;have kd:=rF ((m2:Nat):Int) (by omega) (by omega);have il:=bV ((m2:Nat):Int);obtain⟨dg,hdg⟩:∃x,itoaS ((m2:Nat):Int)=x:=⟨_,rfl⟩;rw[hdg]at kd il;simp only[cC,q2,q3,q9,htwo,hdg]at kf;simp at kf kd;refine eF.ro hT hW (λ|50=>some<| .plain ⟨.d (.str dg),true⟩|62=>some<| .plain ⟨.own 2 (P.map Df.d),true⟩|_=>none) ?_;simp[e2,e3,e9,e4,d2,d9];refine⟨by(repeat' with_reducible apply And.intro)<;>first|omega|with_reducible assumption|rfl|simpa using kf,?_⟩;refine aF ?_;simp[hP]
  ·refine aA ?_;simp;refine aC ?_;simp;refine⟨λh9=>?_,λh9=>?_⟩
   ·have ek:k=2:=(by omega);subst ek;refine aD ?_;obtain⟨P,hP⟩:∃P,fI 2 i v=P:=⟨_,rfl⟩;have kf:=lF 2 i v hi;rw[hP]at kf;have kd:=rF ((1+m2:Nat):Int) (by omega) (by omega);have il:=bV ((1+m2:Nat):Int);obtain⟨dg,hdg⟩:∃x,itoaS ((1+m2:Nat):Int)=x:=⟨_,rfl⟩;rw[hdg]at kd il;simp only[cC,q2,q3,q9,hrow,hdg]at kf;simp at kf kd;refine eF.ro hT hW (λ|69=>some<| .plain ⟨.d (.str dg),true⟩|79=>some<| .plain ⟨.own 2 (P.map Df.d),true⟩|_=>none) ?_;simp[e2,e3,e9,e4,d2,d9];refine⟨by(repeat' with_reducible apply And.intro)<;>first|omega|with_reducible assumption|rfl|simpa using kf,?_⟩;refine aF ?_;simp[hP]
   ·refine aA ?_;simp;refine aC ?_;simp;refine⟨λh11=>?_,λh11=>?_⟩
    ·have ek:k=3:=(by omega);subst ek;refine aD ?_;obtain⟨P,hP⟩:∃P,fI 3 i v=P:=⟨_,rfl⟩;have kf:=lF 3 i v hi;rw[hP]at kf;have kd:=rF ((1+m2:Nat):Int) (by omega) (by omega);have il:=bV ((1+m2:Nat):Int);obtain⟨dg,hdg⟩:∃x,itoaS ((1+m2:Nat):Int)=x:=⟨_,rfl⟩;rw[hdg]at kd il;simp only[cC,q2,q3,q9,hdg]at kf;simp at kf kd;refine eF.ro hT hW (λ|91=>some<| .plain ⟨.d (.str dg),true⟩|96=>some<| .plain ⟨.own 2 (P.map Df.d),true⟩|_=>none) ?_;simp[e2,e3,e9,e4,d2,d9];refine⟨by(repeat' with_reducible apply And.intro)<;>first|omega|with_reducible assumption|rfl|simpa using kf,?_⟩;refine aF ?_;simp[hP]
    ·refine aA ?_;simp;refine aC ?_;simp;refine⟨λh13=>?_,λh13=>?_⟩
     ·have ek:k=4:=(by omega);subst ek;refine aD ?_;obtain⟨P,hP⟩:∃P,fI 4 i v=P:=⟨_,rfl⟩;have kf:=lF 4 i v hi;rw[hP]at kf;simp only[cC,q2,q3,q9,horder]at kf;simp at kf;refine eF.ro hT hW (λ|109=>some<| .plain ⟨.own 2 (P.map Df.d),true⟩|_=>none) ?_;simp[e2,e3,e9,e4,d2,d9];refine⟨by(repeat' with_reducible apply And.intro)<;>first|omega|with_reducible assumption|rfl|simpa using kf,?_⟩;refine aF ?_;simp[hP]
     ·refine aE ?_;simp;refine aD ?_;have ek:k=5:=by omega
      subst ek;obtain⟨P,hP⟩:∃P,fI 5 i v=P:=⟨_,rfl⟩;have kf:=lF 5 i v hi;rw[hP]at kf;obtain⟨five,hfive⟩:∃x,lK v=x:=⟨_,rfl⟩;have lfive:five.length<=60:=by rw[<-hfive];exact cS JE
      have cfive:=uP (L:=JB) (k:=n2) (by show _<2;omega);rw[show JB.getD n2 []=five by rw[<-hfive];simp only[lK,q2,q4,g2,g9]]at cfive;simp[JB]at cfive;have kd:=rF ((2+m2:Nat):Int) (by omega) (by omega);have il:=bV ((2+m2:Nat):Int);obtain⟨dg,hdg⟩:∃x,itoaS ((2+m2:Nat):Int)=x:=⟨_,rfl⟩;rw[hdg]at kd il;simp only[cC,q2,q3,q9,hfive,hdg]at kf;simp at kf kd;refine eF.rd [[115,119,128],[115,119],[119],[119],[119],[119],[119],[119],[119],[115],[115,119],[115,119],[115,119],[115],[115],[115],[115],[115]] [[],[],[],[],[],[115],[],[],[],[119],[],[],[],[],[],[],[],[],[128],[129]] (λ|115=>some<| .plain ⟨.d (.str dg),true⟩|129=>some<| .plain ⟨.own 2 (P.map Df.d),true⟩|_=>none) ?_;simp[e2,e3,e9,e4,d2,d9,cfive];refine⟨by(repeat' with_reducible apply And.intro)<;>first|omega|with_reducible assumption|rfl|simpa using kf,?_⟩;refine aF ?_;simp[hP]
end
section
attribute[local simp] jO.cond Nd.d_eq nd_t nd_dr nd_td ndsD aQ bD bL Xv Xw R3.d
theorem JI(k i v:Nat)(hk:k<14)(hi:i<=9)(hv:v<=1000000):Ok Tryz.prog 54 [aG k,aG i,aG v] ⟨.own 2 ((fI k i v).map Df.d),true⟩:=by
 refine aZ Tryz.func54 rfl Tryz.ntmps54 Tryz.results54 λw0 X hp=>?_;obtain⟨m2,q2⟩:∃m:Nat,v%2=m:=⟨_,rfl⟩;obtain⟨m3,q3⟩:∃m:Nat,v%3=m:=⟨_,rfl⟩;obtain⟨m9,q9⟩:∃m:Nat,v%9=m:=⟨_,rfl⟩;obtain⟨m4,q4⟩:∃m:Nat,v / 2%4=m:=⟨_,rfl⟩;obtain⟨n2,g2⟩:∃m:Nat,v / 2%2=m:=⟨_,rfl⟩;obtain⟨n9,g9⟩:∃m:Nat,v / 9%2=m:=⟨_,rfl⟩;have e2:(v:Int).tmod 2=(m2:Int):=by rw[<-q2];rfl
 have e3:(v:Int).tmod 3=(m3:Int):=by rw[<-q3];rfl
 have e9:(v:Int).tmod 9=(m9:Int):=by rw[<-q9];rfl
 have e4:((v:Int) / 2).tmod 4=(m4:Int):=by rw[<-q4];rfl
 have d2:((v:Int) / 2).tmod 2=(n2:Int):=by rw[<-g2];rfl
 have d9:((v:Int) / 9).tmod 2=(n9:Int):=by rw[<-g9];rfl
 have b2:(v:Int) / 2<=v:=by omega
 have b9:(v:Int) / 9<=v:=by omega
 refine aA ?_;simp;refine aD ?_;refine aA ?_;simp;refine aH ?_;refine aP (ι:=Unit) (λc=>aO [(0,.d (aG (k:Nat))),(1,.d (aG (i:Nat))),(2,.d (aG (v:Nat))),(7,.d (aG (k:Nat))),(8,.d (.bool (decide (k<6))))]) (λc=>aI []) (λc=>True) ?_ λc hc8=>?_
 ·refine aA ?_;simp;refine aC ?_;simp;refine⟨λh2=>?_,λh2=>?_⟩
  ·refine aE ?_;simp;exact(aB hp [0,1,2,7,8] [] (by simp[h2]))
  ·refine aA ?_;simp;refine aC ?_;simp;refine⟨λh3=>?_,λh3=>?_⟩
   ·refine aE ?_;simp;exact(aB hp [0,1,2,7,8] [] (by simp[show k<6 by omega,h3]))
   ·refine aA ?_;simp;refine aC ?_;simp;refine⟨λh4=>?_,λh4=>?_⟩
    ·refine aE ?_;simp;exact(aB hp [0,1,2,7,8] [] (by simp[show k<6 by omega,h4]))
    ·refine aA ?_;simp;refine aC ?_;simp;refine⟨λh5=>?_,λh5=>?_⟩
     ·refine aE ?_;simp;exact(aB hp [0,1,2,7,8] [] (by simp[show k<6 by omega,h5]))
     ·refine aA ?_;simp;refine aC ?_;simp;refine⟨λh6=>?_,λh6=>?_⟩
      ·refine aE ?_;simp;exact(aB hp [0,1,2,7,8] [] (by simp[show k<6 by omega,h6]))
      ·refine aJ ?_;simp;exact(aB hp [0,1,2,7,8] [] (by have e6:(k<6)=((k:Int)=5):=propext (by omega);simp[e6]))
 ·refine aC ?_;simp;refine⟨λh8=>?_,λh8=>?_⟩
  ·refine aD ?_;have k6:k<6:=h8;obtain⟨P,hP⟩:∃P,fI k i v=P:=⟨_,rfl⟩;have kt:=JH k i v k6 hi hv;rw[hP]at kt;refine eF.ro hT hW (λ|18=>some<| .plain ⟨.own 2 (P.map Df.d),true⟩|_=>none) ?_;simp;refine⟨kt,?_⟩;refine aF ?_;simp[hP]
  ·refine aA ?_;simp;refine aC ?_;simp;refine⟨λh9=>?_,λh9=>?_⟩
   ·have ek:k=6:=(by omega);subst ek;refine aD ?_;obtain⟨P,hP⟩:∃P,fI 6 i v=P:=⟨_,rfl⟩;have kf:=lF 6 i v hi;rw[hP]at kf;have kd:=rF ((1+m3:Nat):Int) (by omega) (by omega);have il:=bV ((1+m3:Nat):Int);obtain⟨dg,hdg⟩:∃x,itoaS ((1+m3:Nat):Int)=x:=⟨_,rfl⟩;rw[hdg]at kd il;simp only[cC,q2,q3,q9,hdg]at kf;simp at kf kd;refine eF.ro hT hW (λ|25=>some<| .plain ⟨.d (.str dg),true⟩|30=>some<| .plain ⟨.own 2 (P.map Df.d),true⟩|_=>none) ?_;simp[e2,e3,e9,e4,d2,d9];refine⟨by(repeat' with_reducible apply And.intro)<;>first|omega|with_reducible assumption|rfl|simpa using kf,?_⟩;refine aF ?_;simp[hP]
   ·refine aA ?_;simp;refine aC ?_;simp;refine⟨λh11=>?_,λh11=>?_⟩
    ·have ek:k=7:=(by omega);subst ek;refine aD ?_;obtain⟨P,hP⟩:∃P,fI 7 i v=P:=⟨_,rfl⟩;have kf:=lF 7 i v hi;rw[hP]at kf;have kd:=rF ((3+m3:Nat):Int) (by omega) (by omega);have il:=bV ((3+m3:Nat):Int);obtain⟨dg,hdg⟩:∃x,itoaS ((3+m3:Nat):Int)=x:=⟨_,rfl⟩;rw[hdg]at kd il;simp only[cC,q2,q3,q9,hdg]at kf;simp at kf kd;refine eF.ro hT hW (λ|37=>some<| .plain ⟨.d (.str dg),true⟩|42=>some<| .plain ⟨.own 2 (P.map Df.d),true⟩|_=>none) ?_;simp[e2,e3,e9,e4,d2,d9];refine⟨by(repeat' with_reducible apply And.intro)<;>first|omega|with_reducible assumption|rfl|simpa using kf,?_⟩;refine aF ?_;simp[hP]
    ·refine aA ?_;simp;refine aC ?_;simp;refine⟨λh13=>?_,λh13=>?_⟩
     ·have ek:k=8:=(by omega);subst ek;refine aD ?_;obtain⟨P,hP⟩:∃P,fI 8 i v=P:=⟨_,rfl⟩;have kf:=lF 8 i v hi;rw[hP]at kf;obtain⟨eight,height⟩:∃x,gW v=x:=⟨_,rfl⟩;have leight:eight.length<=60:=by rw[<-height];exact cS FK
      have ceight:=uP (L:=DK) (k:=m2) (by show _<2;omega);rw[show DK.getD m2 []=eight by rw[<-height];simp only[gW,q2,q4,g2,g9]]at ceight;simp[DK]at ceight;simp only[cC,q2,q3,q9,height]at kf;simp at kf;refine eF.ro hT hW (λ|56=>some<| .plain ⟨.own 2 (P.map Df.d),true⟩|_=>none) ?_;simp[e2,e3,e9,e4,d2,d9,ceight];refine⟨by(repeat' with_reducible apply And.intro)<;>first|omega|with_reducible assumption|rfl|simpa using kf,?_⟩;refine aF ?_;simp[hP]
     ·refine aA ?_;simp;refine aC ?_;simp;refine⟨λh15=>?_,λh15=>?_⟩
      ·have ek:k=9:=(by omega);subst ek;refine aD ?_;obtain⟨P,hP⟩:∃P,fI 9 i v=P:=⟨_,rfl⟩;have kf:=lF 9 i v hi;rw[hP]at kf;obtain⟨nine,hnine⟩:∃x,lL v=x:=⟨_,rfl⟩;have lnine:nine.length<=60:=by rw[<-hnine];exact cS JF
       have cnine:=uP (L:=JC) (k:=m2) (by show _<2;omega);rw[show JC.getD m2 []=nine by rw[<-hnine];simp only[lL,q2,q4,g2,g9]]at cnine;simp[JC]at cnine;simp only[cC,q2,q3,q9,hnine]at kf;simp at kf;refine eF.ro hT hW (λ|67=>some<| .plain ⟨.own 2 (P.map Df.d),true⟩|_=>none) ?_;simp[e2,e3,e9,e4,d2,d9,cnine];refine⟨by(repeat' with_reducible apply And.intro)<;>first|omega|with_reducible assumption|rfl|simpa using kf,?_⟩;refine aF ?_;simp[hP]
      ·refine aA ?_;simp;refine aC ?_;simp;refine⟨λh17=>?_,λh17=>?_⟩
       ·have ek:k=10:=(by omega);subst ek;refine aD ?_;obtain⟨P,hP⟩:∃P,fI 10 i v=P:=⟨_,rfl⟩;have kf:=lF 10 i v hi;rw[hP]at kf;have kd:=rF ((1+m3:Nat):Int) (by omega) (by omega);have il:=bV ((1+m3:Nat):Int);obtain⟨dg,hdg⟩:∃x,itoaS ((1+m3:Nat):Int)=x:=⟨_,rfl⟩;rw[hdg]at kd il;simp only[cC,q2,q3,q9,hdg]at kf;simp at kf kd;refine eF.ro hT hW (λ|75=>some<| .plain ⟨.d (.str dg),true⟩|80=>some<| .plain ⟨.own 2 (P.map Df.d),true⟩|_=>none) ?_;simp[e2,e3,e9,e4,d2,d9];refine⟨by(repeat' with_reducible apply And.intro)<;>first|omega|with_reducible assumption|rfl|simpa using kf,?_⟩;refine aF ?_;simp[hP]
       ·refine aA ?_;simp;refine aC ?_;simp;refine⟨λh19=>?_,λh19=>?_⟩
        ·have ek:k=11:=(by omega);subst ek;refine aD ?_;obtain⟨P,hP⟩:∃P,fI 11 i v=P:=⟨_,rfl⟩;have kf:=lF 11 i v hi;rw[hP]at kf;have kd:=rF ((m3:Nat):Int) (by omega) (by omega);have il:=bV ((m3:Nat):Int);obtain⟨dg,hdg⟩:∃x,itoaS ((m3:Nat):Int)=x:=⟨_,rfl⟩;rw[hdg]at kd il;simp only[cC,q2,q3,q9,hdg]at kf;simp at kf kd;refine eF.ro hT hW (λ|86=>some<| .plain ⟨.d (.str dg),true⟩|91=>some<| .plain ⟨.own 2 (P.map Df.d),true⟩|_=>none) ?_;simp[e2,e3,e9,e4,d2,d9];refine⟨by(repeat' with_reducible apply And.intro)<;>first|omega|with_reducible assumption|rfl|simpa using kf,?_⟩;refine aF ?_;simp[hP]
        ·refine aA ?_;simp;refine aC ?_;simp;refine⟨λh21=>?_,λh21=>?_⟩
         ·have ek:k=12:=(by omega);subst ek;refine aD ?_;obtain⟨P,hP⟩:∃P,fI 12 i v=P:=⟨_,rfl⟩;have kf:=lF 12 i v hi;rw[hP]at kf;have kd:=rF ((2+m3:Nat):Int) (by omega) (by omega);have il:=bV ((2+m3:Nat):Int);obtain⟨dg,hdg⟩:∃x,itoaS ((2+m3:Nat):Int)=x:=⟨_,rfl⟩;rw[hdg]at kd il;simp only[cC,q2,q3,q9,hdg]at kf;simp at kf kd;refine eF.ro hT hW (λ|100=>some<| .plain ⟨.d (.str dg),true⟩|105=>some<| .plain ⟨.own 2 (P.map Df.d),true⟩|_=>none) ?_;simp[e2,e3,e9,e4,d2,d9];refine⟨by(repeat' with_reducible apply And.intro)<;>first|omega|with_reducible assumption|rfl|simpa using kf,?_⟩;refine aF ?_;simp[hP]
         ·refine aE ?_;simp;refine aD ?_;have ek:k=13:=by omega
          subst ek;obtain⟨P,hP⟩:∃P,fI 13 i v=P:=⟨_,rfl⟩;have kf:=lF 13 i v hi;rw[hP]at kf;obtain⟨last,hlast⟩:∃x,lM v=x:=⟨_,rfl⟩;have llast:last.length<=60:=by rw[<-hlast];exact cS JG
          have clast:=uP (L:=JD) (k:=n9) (by show _<2;omega);rw[show JD.getD n9 []=last by rw[<-hlast];simp only[lM,q2,q4,g2,g9]]at clast;simp[JD]at clast;have kd:=rF ((1+m9:Nat):Int) (by omega) (by omega);have il:=bV ((1+m9:Nat):Int);obtain⟨dg,hdg⟩:∃x,itoaS ((1+m9:Nat):Int)=x:=⟨_,rfl⟩;rw[hdg]at kd il;simp only[cC,q2,q3,q9,hlast,hdg]at kf;simp at kf kd;refine eF.rd [[110,113,122],[113],[113],[113],[113],[113],[113],[110],[110,113],[110,113],[110,113],[110],[110]] [[],[],[],[],[110],[],[],[113],[],[],[],[],[],[],[],[],[122],[123]] (λ|110=>some<| .plain ⟨.d (.str dg),true⟩|123=>some<| .plain ⟨.own 2 (P.map Df.d),true⟩|_=>none) ?_;simp[e2,e3,e9,e4,d2,d9,clast];refine⟨by(repeat' with_reducible apply And.intro)<;>first|omega|with_reducible assumption|rfl|simpa using kf,?_⟩;refine aF ?_;simp[hP]
end
section
attribute[local simp] jO.cond Nd.d_eq nd_t nd_dr nd_td ndsD aQ bD
theorem Ob(ts:List Nd)(b:Int->Bool):∀(f i:Nat) (M:List Nat),M.Nodup->(∀k∈M,k<ts.length)->(fV ts b f i M).Nodup/\∀k∈fV ts b f i M,k<ts.length
 |0,_,_,hn,hk=>⟨hn,hk⟩
 |f+1,i,M,hn,hk=>by
  rw[Ai];have key:∀(us:List bX) (M:List Nat),M.Nodup->(∀k∈M,k<ts.length)->(us.foldl (jE ts b (fV ts b f)) M).Nodup/\∀k∈us.foldl (jE ts b (fV ts b f)) M,k<ts.length:=λus=>by
   induction us with
   |nil=>exact λM h1 h2=>⟨h1,h2⟩
   |cons u r ihu=>
    intro M h1 h2;rw[List.foldl_cons];have h3:(jE ts b (fV ts b f) M u).Nodup/\∀k∈jE ts b (fV ts b f) M u,k<ts.length:=by
     unfold jE;split
     ·rename_i k hk;split
      ·rename_i hb;refine Ob ts b f k (M++[k]) ?_ λk' hk'=>?_
       ·rw[List.nodup_append];exact⟨h1,by simp,λx hx y hy e=>by simp at hy;subst hy;subst e;exact hb.2 hx⟩
       ·rcases List.mem_append.1 hk' with h|h
        ·exact h2 k' h
        ·simp at h;subst h;exact uG hk
      ·exact⟨h1,h2⟩
     ·exact⟨h1,h2⟩
    exact ihu _ h3.1 h3.2
  exact key _ M hn hk
theorem Aw(ts:List Nd)(b:Int->Bool)(i:Nat):(iK ts b i).Nodup/\∀k∈iK ts b i,k<ts.length:=Ob ts b _ i [] List.nodup_nil (by simp)
theorem Qx(out:List Df)(x:Df):(BG out x).Perm (x::out):=by
 unfold BG lI;refine List.perm_middle.trans ?_;rw[List.take_append_drop]
theorem oZ(l:List Df):(cY l).Perm l:=by
 have:∀(l out:List Df),(l.foldl BG out).Perm (out++l):=λl=>by
  induction l with
  |nil=>intro out;rw[List.append_nil];exact List.Perm.refl _
  |cons x r ih=>
   intro out;rw[List.foldl_cons];exact(ih _).trans (((Qx out x).append_right r).trans (by simpa using(List.perm_middle (a:=x) (l₁:=out) (l₂:=r)).symm))
 simpa [cY]using this l []
def BH(_:Int):Bool:=true
def uR(i:Nat)(S:List Nat):List Nat:=S.filter λk=>decide (k≠i)
def sliceAt(l:List Df)(ts:List Nd)(i:Nat):List Df:=l.getD i default::(uR i (iK ts BH i)).map λk=>l.getD k default
def DL(l:List Df)(name:aM):List Df×Int:=
 if(lE l).2.2≠0 then([],(lE l).2.2)
 else match mX (lE l).1 name with
  |none=>([],6)
  |some i=>(cY (sliceAt l (lE l).1 i),0)
theorem Qy{n i:Nat}{S:List Nat}(h1:S.Nodup)(h2:∀k∈S,k<n)(hi:i<n):(uR i S).length<n:=by
 have h3:(i::uR i S).Nodup:=List.nodup_cons.2 ⟨λh=>by simp[uR]at h,h1.filter _⟩;have:=CS h3 (m:=List.range n) λk hk=>by
  rcases List.mem_cons.1 hk with rfl|hk
  ·exact List.mem_range.2 hi
  ·exact List.mem_range.2 (h2 k (List.mem_filter.1 hk).1)
 rw[List.length_cons,List.length_range]at this;omega
theorem DM{α β:Type}{f:α->β}:∀{l:List α},(l.map f).Nodup->∀a∈l,∀b∈l,f a=f b->a=b
 |x::l,h,a,ha,b,hb,e=>by
  obtain⟨h1,h2⟩:=List.nodup_cons.1 h;rcases List.mem_cons.1 ha with ea|ha'
  ·rcases List.mem_cons.1 hb with eb|hb'
   ·rw[ea,eb]
   ·exact absurd (List.mem_map.2 ⟨b,hb',by rw[<-e,ea]⟩) h1
  ·rcases List.mem_cons.1 hb with eb|hb'
   ·exact absurd (List.mem_map.2 ⟨a,ha',by rw[e,eb]⟩) h1
   ·exact DM h2 a ha' b hb' e
theorem JJ{out:List Df}{x:Df}(h:out.Pairwise λa b=>a.name<=b.name):(BG out x).Pairwise λa b=>a.name<=b.name:=by
 obtain⟨s1,s2⟩:=Ak (p:=λy:Df=>Op.bytesLess x.name y.name) (out:=out) out.length (Nat.le_refl _);have hle:=Gx (p:=λy:Df=>Op.bytesLess x.name y.name) (out:=out) out.length;unfold BG lI;generalize mY (λy:Df=>Op.bytesLess x.name y.name) out out.length=k at*;have hb:∀a∈out.take k,a.name<=x.name:=λa ha=>by
  obtain⟨i,hi,rfl⟩:=List.getElem_of_mem ha;rw[List.getElem_take];rw[List.length_take]at hi;obtain⟨k',rfl⟩:∃k',k=k'+1:=⟨k-1,by omega⟩;have hk':i<=k':=by omega
  have hlt:k'<out.length:=by omega
  have h0:=s2 k' hlt rfl;rw[bytesLess_eq,decide_eq_false_iff_not,List.not_lt]at h0;by_cases e:i=k'
  ·subst e;exact h0
  ·exact List.le_trans (List.pairwise_iff_getElem.1 h i k' (by omega) hlt (by omega)) h0
 have ha:∀b∈out.drop k,x.name<=b.name:=λb hb=>by
  obtain⟨i,hi,rfl⟩:=List.getElem_of_mem hb;rw[List.getElem_drop];rw[List.length_drop]at hi;have h0:=s1 (k+i) (by omega) (by omega) (by omega);rw[bytesLess_eq,decide_eq_true_eq]at h0;exact List.le_of_lt h0
 refine List.pairwise_append.2 ⟨h.sublist (List.take_sublist _ _),List.pairwise_cons.2 ⟨ha,h.sublist (List.drop_sublist _ _)⟩,λa ha' b hb'=>?_⟩;rcases List.mem_cons.1 hb' with rfl|hb'
 ·exact hb a ha'
 ·exact List.le_trans (hb a ha') (ha b hb')
theorem sN(l:List Df):(cY l).Pairwise λa b=>a.name<=b.name:=by
 have:∀(l out:List Df),(out.Pairwise λa b=>a.name<=b.name)->(l.foldl BG out).Pairwise λa b=>a.name<=b.name:=λl=>by
  induction l with
  |nil=>exact λout h=>h
  |cons x r ih=>exact λout h=>ih _ (JJ h)
 exact this l [] List.Pairwise.nil
theorem Mt{l m:List Df}(hp:l.Perm m)(hn:(l.map Df.name).Nodup):cY l=cY m:=by
 refine List.Perm.eq_of_pairwise (le:=λa b:Df=>a.name<=b.name) (λa b ha hb h1 h2=>?_) (sN l) (sN m) (((oZ l).trans hp).trans (oZ m).symm);exact DM hn a ((oZ l).mem_iff.1 ha) b (hp.mem_iff.2 ((oZ m).mem_iff.1 hb)) (List.le_antisymm h1 h2)
theorem FL:∀(l:List Df) (ts:List Nd),(BR ts l).2.2=0->(ts.map Nd.text).Nodup->(BR ts l).1.map Nd.text=ts.map Nd.text++l.map Df.name/\((BR ts l).1.map Nd.text).Nodup
 |[],ts,_,h=>⟨by simp[BR],by simpa [BR]using h⟩
 |d::r,ts,he,h=>by
  by_cases e:Ha ts d=0
  ·rw[Hb e]at he|-;have ht:(parseS d.text).1.text=d.name/\mX ts d.name=none:=by
    unfold Ha at e;split at e
    ·exact absurd e (by assumption)
    ·split at e
     ·cases e
     ·rename_i h1;split at e
      ·cases e
      ·rename_i h2;exact⟨Classical.byContradiction h1,by cases q:mX ts d.name with
        |none=>rfl
        |some j=>exact absurd (.inl (by rw[q];rfl)) h2⟩
   obtain⟨h1,h2⟩:=FL r (ts++[(parseS d.text).1]) he (by
    rw[List.map_append,List.nodup_append];refine⟨h,by simp,λx hx y hy e=>?_⟩;simp at hy;subst hy;subst e;rw[ht.1]at hx;obtain⟨t,ht',hte⟩:=List.mem_map.1 hx;have:=ht.2;unfold mX at this;rw[List.findIdx?_eq_none_iff]at this;have:=this t ht';simp[hte]at this)
   refine⟨?_,h2⟩;rw[h1,List.map_append];simp[ht.1]
  ·rw[sK e]at he;exact absurd he e
theorem pV{l:List Df}(h:(dB l).2.2=0):(dB l).1.map Nd.text=l.map Df.name/\(l.map Df.name).Nodup:=by
 unfold dB at h|-;split at h
 ·cases h
 ·rename_i h24;rw[if_neg h24];obtain⟨h1,h2⟩:=FL l [] h (by simp);exact⟨by simpa using h1,by rw[h1]at h2;simpa using h2⟩
theorem Hl{l:List Df}(h:(lE l).2.2=0):(dB l).2.2=0:=by
 unfold lE at h;split at h
 ·exact h
 ·rename_i h0;exact Classical.byContradiction h0
theorem Mu{α:Type}{l:List α}{j:Nat}(h:j<l.length):l.Perm (l[j]::l.eraseIdx j):=by
 have e:l=l.take j++l[j]::l.drop (j+1):=by
  have:=List.take_append_drop j l;rw[List.drop_eq_getElem_cons h]at this;exact this.symm
 have e2:l.eraseIdx j=l.take j++l.drop (j+1):=List.eraseIdx_eq_take_drop_succ ..;rw[e2]
 conv=>lhs;rw[e]
 exact List.perm_middle
theorem VM{S:List Nat}{j:Nat}(h:j<(yP S).length):(yP S)[j]=aG ((S[j]'(by simpa [yP]using h):Nat):Int):=by simp[yP]
theorem Qz(S:List Nat)(j:Nat):(yP S).eraseIdx j=yP (S.eraseIdx j):=by
 unfold yP;rw[List.eraseIdx_eq_take_drop_succ,List.eraseIdx_eq_take_drop_succ,List.map_append,List.map_take,List.map_drop]
theorem QA(S:List Nat)(j:Nat):(El S).eraseIdx j=El (S.eraseIdx j):=by
 unfold El;rw[List.eraseIdx_eq_take_drop_succ,List.eraseIdx_eq_take_drop_succ,List.map_append,List.map_take,List.map_drop]
theorem Xy{σ:List (Nat×Nat)}{n id:Nat}:ren σ (n+1) (.it id)=match dG σ id with|some j=>.it j|none=>.junk:=rfl
attribute[local simp] Qz QA Xy
theorem JK{S:List Nat}{i j:Nat}(h:j<S.length):(uR i S).Perm (if S[j]=i then uR i (S.eraseIdx j)else S[j]::uR i (S.eraseIdx j)):=by
 have:=(Mu h).filter λk=>decide (k≠i);refine List.Perm.trans this ?_;by_cases e:S[j]=i
 ·rw[if_pos e,List.filter_cons_of_neg (by simpa using e)];exact List.Perm.refl _
 ·rw[if_neg e,List.filter_cons_of_pos (by simpa using e)];exact List.Perm.refl _
theorem Bp{l:List Df}(h:(l.map Df.name).Nodup):∀{S:List Nat},S.Nodup->(∀k∈S,k<l.length)->((S.map λk=>l.getD k default).map Df.name).Nodup
 |[],_,_=>by simp
 |a::S,hn,hk=>by
  obtain⟨h1,h2⟩:=List.nodup_cons.1 hn;rw[List.map_cons,List.map_cons,List.nodup_cons];refine⟨λhm=>?_,Bp h h2 λk hk'=>hk k (List.mem_cons_of_mem _ hk')⟩;rw[List.map_map]at hm;obtain⟨b,hb,e⟩:=List.mem_map.1 hm;have ha:=hk a (List.mem_cons_self ..);have hb':=hk b (List.mem_cons_of_mem _ hb);simp only[Function.comp,List.getD_eq_getElem?_getD,List.getElem?_eq_getElem ha,List.getElem?_eq_getElem hb',Option.getD_some]at e;have this:=List.pairwise_iff_getElem.1 h;have hab:a≠b:=λq=>h1 (q▸hb);rcases Nat.lt_or_gt_of_ne hab with q|q
  ·exact this a b (by simpa using ha) (by simpa using hb') q (by simpa using e.symm)
  ·exact this b a (by simpa using hb') (by simpa using ha) q (by simpa using e)
theorem pA(l:List Df)(ts:List Nd)(i:Nat):sliceAt l ts i=(i::uR i (iK ts BH i)).map λk=>l.getD k default:=rfl
theorem wN{l:List Df}{ts:List Nd}{i:Nat}(h:(l.map Df.name).Nodup)(hl:ts.length=l.length)(hi:i<ts.length):((sliceAt l ts i).map Df.name).Nodup:=by
 obtain⟨h1,h2⟩:=Aw ts BH i;rw[pA];refine Bp h (List.nodup_cons.2 ⟨λh=>by simp[uR]at h,h1.filter _⟩) λk hk=>?_;rcases List.mem_cons.1 hk with rfl|hk
 ·omega
 ·have:=h2 k (List.mem_filter.1 hk).1;omega
theorem TQ(l:List Df)(name:aM)(hl:l.length<20):Ok Tryz.prog 20 [eM l,.str name] ⟨.tup [.own 2 ((DL l name).1.map Df.d),.d (aG (DL l name).2)],true⟩:=by
 refine Ok.two Tryz.func20 (by kernel_rfl) (c:=_) rfl Tryz.ntmps20 (by simp) Tryz.results20 rfl λw0 X hp=>?_;obtain⟨C,hC⟩:∃C,lE l=C:=⟨_,rfl⟩;obtain⟨ts,hts⟩:∃ts,C.1=ts:=⟨_,rfl⟩;have kc:=DE l;have hS:DL l name=if C.2.2≠0 then([],C.2.2)else match mX ts name with|none=>([],6)|some i=>(cY (sliceAt l ts i),0):=by rw[<-hts,<-hC];rfl
 have h1C:=Hh l;have hok:=Hl (l:=l);have sp:=sL l;rw[hC]at kc hok h1C;rw[hts]at kc h1C;rw[<-h1C]at sp;have hw:∀t∈ts,weighN t<=1000000000:=λt ht=>by obtain⟨s,rfl⟩:=sp.1 t ht;exact gQ s
 refine aA ?_;simp;refine aX hT hW (λ|15=>some<| .plain ⟨.tup [.d (xC ts),.d (aG C.2.1),.d (aG C.2.2)],false⟩|_=>none) ?_;simp[aW];refine⟨⟨by simpa using kc,by simp[xC]⟩,?_⟩;simp[xC];refine aD ?_;refine aA ?_;simp;refine aC ?_;simp;refine⟨λh2=>?_,λh2=>?_⟩
 ·rw[if_pos h2]at hS;refine aA ?_;simp;refine aF ?_;simp[hS]
 ·have h2':C.2.2=0:=by simpa using h2
  rw[if_neg (by simpa using h2')]at hS;have hlen:=(sp.2.2 (hok h2')).2.1;refine aE ?_;simp;refine aA ?_;simp[GH,aW];refine aD ?_;refine aA ?_;simp;refine aC ?_;simp;refine⟨λh5=>?_,λh5=>?_⟩
  ·have hn:mX ts name=none:=by simpa using h5
   rw[hn]at hS;dsimp only at hS;refine aA ?_;simp;refine aF ?_;simp[hS]
  ·obtain⟨i,hi⟩:∃i,mX ts name=some i:=by cases h:mX ts name<;>simp_all
   rw[hi]at hS;dsimp only at hS;have hil:i<ts.length:=uG hi;have hat:Uy ts name=(i:Nat):=by unfold Uy;rw[hi];rfl
   have hrn:=Aw ts BH i;refine aE ?_;simp;refine aA ?_;simp[hat,(show i<l.length by omega)];refine aD ?_;refine aD ?_;have kre:=CU ts BH 52 i hw (λk=>PK k) hil;refine eF.ro hT hW (λ|38=>some<| .plain ⟨.d (.mp (yP (iK ts BH i)) (El (iK ts BH i))),false⟩|_=>none) ?_;simp[hat];refine⟨by simpa [xC]using kre,?_⟩;refine aH ?_;refine aR (ι:=List Nat×List Df) (λ⟨S,out⟩=>aO [(0,.d (eM l)),(9,.d (aG (i:Nat))),(11,.ow 35 0 out.length),(39,.it 39)]) (λ⟨S,out⟩=>aI [(35,.row false 2 (out.map Df.d)),(39,.iter false (yP S) (El S))]) (λ⟨S,out⟩=>(out++(uR i S).map λk=>l.getD k default).Perm (sliceAt l ts i)/\(∀k∈S,k<l.length)) (λ⟨S,out⟩=>S.length) (iK ts BH i,[l.getD i default]) (aB hp [0,9,11,39] [(35,35),(39,39)] (hH:=by simp[List.getElem?_eq_getElem (show i<l.length by omega)])) (⟨by simp[sliceAt],λk hk=>by have:=hrn.2 k hk;omega⟩) λ⟨S,out⟩ hi9=>?_;obtain⟨hi9,hi9k⟩:=hi9;have hol:out.length<20:=by
    have e1:=hi9.length_eq;have e2:=Qy hrn.1 hrn.2 hil;simp only[pA,List.length_append,List.length_map,List.length_cons]at e1;omega
   refine Gr (it:=39) (id:=39) (ks:=yP S) (vs:=El S) rfl rfl rfl rfl rfl rfl rfl rfl rfl rfl rfl rfl rfl rfl rfl (by decide) (by decide) (by simp) (by simp) (λhk=>?_) (λj hj=>?_)
   ·have hS0:S=[]:=by simpa [yP]using hk
    subst hS0;simp;refine aD ?_;have hpo:out.Perm (sliceAt l ts i):=by simpa [uR]using hi9
    have ks:=Hf out hol;have he:cY out=cY (sliceAt l ts i):=by
     have hns:=wN (ts:=ts) (i:=i) (pV (hok h2')).2 hlen hil;exact(Mt hpo.symm hns).symm
    refine eF.ro hT hW (λ|55=>some<| .plain ⟨.own 2 ((cY out).map Df.d),true⟩|_=>none) ?_;simp;refine⟨by simpa using ks,?_⟩;refine aF ?_;have hsl:=nY out;have htk:List.take out.length (List.map Df.d (cY out))=List.map Df.d (cY out):=List.take_of_length_le (by rw[List.length_map,hsl];exact Nat.le_refl _);rw[he]at hsl htk;simp[hS,he,hsl,htk]
   ·have hjS:j<S.length:=by simpa [yP]using hj
    obtain⟨k,hkj⟩:∃k,S[j]=k:=⟨_,rfl⟩;have hkl:k<l.length:=hi9k k (by rw[<-hkj];exact List.getElem_mem hjS);have hpe:=JK (i:=i) hjS;simp[VM,hkj];refine aA ?_;simp;refine aC ?_;simp;refine⟨λh11=>?_,λh11=>?_⟩
    ·refine aJ ?_;simp[hkl];refine⟨by omega,?_⟩;refine Nf.mk (S.eraseIdx j,out++[l[k]]) (aB hp [0,9,11,39] [(53,35),(39,39)]) ?_ ?_
     ·refine⟨?_,λk' hk'=>hi9k k' ((List.eraseIdx_sublist S j).subset hk')⟩;rw[hkj,if_neg (by omega)]at hpe;have hpm:=(hpe.map λk=>l.getD k default).append_left out;refine List.Perm.trans ?_ (hpm.symm.trans hi9);simp[List.getElem?_eq_getElem hkl]
     ·have:=List.length_eraseIdx_of_lt hjS;show(S.eraseIdx j).length<S.length;omega
    ·refine aE ?_;simp;refine Nf.mk (S.eraseIdx j,out) (aB hp [0,9,11,39] [(35,35),(39,39)]) ?_ ?_
     ·refine⟨?_,λk' hk'=>hi9k k' ((List.eraseIdx_sublist S j).subset hk')⟩;rw[hkj,if_pos (by omega)]at hpe;have hpm:=(hpe.map λk=>l.getD k default).append_left out;exact hpm.symm.trans hi9
     ·have:=List.length_eraseIdx_of_lt hjS;show(S.eraseIdx j).length<S.length;omega
end
theorem mH:Ya (λa b:aM=>Op.bytesLess a b):=by
 refine⟨λa=>?_,λa b c h1 h2=>?_,λa b h1 h2=>?_⟩
 ·rw[bytesLess_eq,decide_eq_false_iff_not];exact List.lt_irrefl a
 ·rw[bytesLess_eq,decide_eq_true_eq]at*;exact List.lt_trans h1 h2
 ·rw[bytesLess_eq,decide_eq_false_iff_not,List.not_lt]at h1 h2;exact List.le_antisymm h2 h1
theorem FM{α:Type}[DecidableEq α]:∀l:List α,(dX l).Sublist l
 |a::b::r=>by
  have ih:=FM (b::r);simp only[dX];split
  ·exact ih.cons _
  ·exact ih.cons_cons _
 |[]=>List.Sublist.refl _
 |[_]=>List.Sublist.refl _
theorem pW{α:Type}[DecidableEq α]:∀{l:List α},l.Nodup->dX l=l
 |a::b::r,h=>by
  have h1:=List.nodup_cons.1 h;simp only[dX];rw[if_neg (λe=>h1.1 (by rw[e];exact List.mem_cons_self ..)),pW h1.2]
 |[],_=>rfl
 |[_],_=>rfl
theorem Hm{α:Type}{lt:α->α->Bool}(O:Ya lt){l:List α}(h:eW lt l):l.Nodup:=h.imp λ{a b} h e=>by subst e;rw[O.irrefl]at h;cases h
theorem VN{f:List aM}:(dX (dJ f)).length<f.length↔¬f.Nodup:=by
 have hp:(dJ f).Perm f:=List.mergeSort_perm f _;have hl:=iX f;constructor
 ·intro h hn;rw[pW (hp.nodup_iff.2 hn),hl]at h;exact Nat.lt_irrefl _ h
 ·intro h;refine Classical.byContradiction λhc=>h ?_;have hle:=sD (dJ f);have e:dX (dJ f)=dJ f:=(FM (dJ f)).eq_of_length (by omega);have hr:eW (λa b:aM=>Op.bytesLess a b) (dX (dJ f)):=nO mH ((nN f).imp λ{a b} h=>by
   rw[bytesLess_eq,decide_eq_false_iff_not,List.not_lt];exact h)
  rw[e]at hr;exact hp.nodup_iff.1 (Hm mH hr)
def bI(d:Df):Nd:=(parseS d.text).1
theorem Mv{l:List Df}{ts:List Nd}{i:Nat}{d:Df}(hd:l[i]? =some d)(ht:ts.map Nd.text=(l.take i).map Df.name):fX l d.name<(i:Int)↔(mX ts d.name).isSome=true:=by
 obtain⟨hi,hde⟩:=List.getElem?_eq_some_iff.1 hd;have hlt:ts.length=i:=by have:=congrArg List.length ht;simpa [Nat.min_eq_left (Nat.le_of_lt hi)]using this
 have hat:∀j (hj:j<ts.length),ts[j].text=(l[j]'(by omega)).name:=λj hj=>by
  have:=congrArg (·[j]?) ht;simpa [List.getElem?_eq_getElem hj,List.getElem?_take,show j<i by omega,List.getElem?_eq_getElem (show j<l.length by omega)]using this
 cases q:l.findIdx? (λe=>decide (e.name=d.name))with
 |none=>
  rw[List.findIdx?_eq_none_iff]at q;have:=q d (List.mem_of_getElem? hd);simp at this
 |some j=>
  have e:fX l d.name=(j:Nat):=by unfold fX;rw[mU,q];rfl
  obtain⟨hj,hj1,hj2⟩:=List.findIdx?_eq_some_iff_getElem.1 q;rw[e];constructor
  ·intro h;have hji:j<i:=by omega
   cases r:mX ts d.name with
   |some _=>rfl
   |none=>
    unfold mX at r;rw[List.findIdx?_eq_none_iff]at r;have:=r ts[j] (List.getElem_mem (by omega));rw[hat j (by omega)]at this;simp at hj1 this;exact absurd hj1.symm this
  ·intro h;obtain⟨k,hk⟩:=Option.isSome_iff_exists.1 h;unfold mX at hk;obtain⟨hk1,hk2,_⟩:=List.findIdx?_eq_some_iff_getElem.1 hk;simp at hk2;rw[hat k hk1]at hk2;have:¬k<j:=λhkj=>by
    have:=hj2 k hkj;simp[hk2]at this
   omega
theorem QB{l:List Df}{ts:List Nd}{i:Nat}{d:Df}(hd:l[i]? =some d)(ht:ts.map Nd.text=(l.take i).map Df.name):Ha ts d=firstE l d i:=by
 unfold Ha firstE;have h1:=Mv hd ht;have h2:=VN (f:=bG (parseS d.text).1);by_cases a:(parseS d.text).2.2≠0
 ·rw[if_pos a,if_pos a]
 ·rw[if_neg a,if_neg a];by_cases b:(parseS d.text).1.text≠d.name
  ·rw[if_pos b,if_pos b]
  ·rw[if_neg b,if_neg b];by_cases c:fX l d.name<(i:Int)
   ·rw[if_pos c,if_pos (.inl (h1.1 c))]
   ·rw[if_neg c];by_cases e:(bG (parseS d.text).1).Nodup
    ·rw[if_pos e,if_neg];rintro(h|h)
     ·exact c (h1.2 h)
     ·exact h2.1 h e
    ·rw[if_neg e,if_pos (.inr (h2.2 e))]
theorem TR{ts:List Nd}{d:Df}(e:Ha ts d=0):(bI d).text=d.name:=by
 unfold Ha at e;split at e
 ·exact absurd e (by assumption)
 ·split at e
  ·cases e
  ·rename_i h1;exact Classical.byContradiction h1
theorem FN{l:List Df}:∀(m i:Nat) (ts:List Nd),i+m=l.length->ts=(l.take i).map bI->ts.map Nd.text=(l.take i).map Df.name->(∀j<i,q1 l j=false)->
 (match dA (q1 l) l.length with|some k=>(BR ts (l.drop i)).2=((k:Int),firstE l (l.getD k default) k)/\(BR ts (l.drop i)).2.2≠0|none=>BR ts (l.drop i)=(l.map bI,(l.length:Int),0))
 |0,i,ts,hm,ht,_,hq=>by
  have hi:i=l.length:=by omega
  subst hi;rw[kV hq,List.drop_length,BR,ht,List.take_length];simp
 |m+1,i,ts,hm,ht,hn,hq=>by
  have hi:i<l.length:=by omega
  have hd:l[i]? =some l[i]:=List.getElem?_eq_getElem hi;have hg:l.getD i default=l[i]:=by rw[List.getD_eq_getElem?_getD,hd];rfl
  have he:=QB hd hn;rw[List.drop_eq_getElem_cons hi];by_cases c:firstE l l[i] i=0
  ·have hq':q1 l i=false:=by unfold q1;rw[hg];simpa using c
   have htx:=TR (he.trans c);have ht2:l.take (i+1)=l.take i++[l[i]]:=List.take_succ_eq_append_getElem hi;have ih:=FN (l:=l) m (i+1) (ts++[bI l[i]]) (by omega) (by rw[ht2,List.map_append,ht];rfl) (by rw[ht2,List.map_append,List.map_append,hn];simp[htx]) λj hj=>by
    rcases Nat.lt_succ_iff_lt_or_eq.1 hj with hj|rfl
    ·exact hq j hj
    ·exact hq'
   rw[Hb (he.trans c)];exact ih
  ·have hf:dA (q1 l) l.length=some i:=kU hi hq (by unfold q1;rw[hg];simpa using c);rw[hf,sK (by rw[he];exact c),he];have hl:ts.length=i:=by rw[ht];simp;omega
   simp only[hg,hl];exact⟨trivial,c⟩
theorem Bq{l:List Df}(h:l.length<=24):(match dA (q1 l) l.length with|some k=>(dB l).2=((k:Int),firstE l (l.getD k default) k)/\(dB l).2.2≠0|none=>dB l=(l.map bI,(l.length:Int),0)):=by
 have:=FN (l:=l) l.length 0 [] (by omega) (by simp) (by simp) (λj h=>absurd h (Nat.not_lt_zero _));unfold dB;rw[if_neg (by omega)];simpa using this
def wO(a b:Int):Int:=if b=0 then a else iJ a b
def TS(a b c:Bool):Int:=if a=true then 6 else if b=true then 12 else if c=true then -1 else 0
def JL(e:bX->Int)(us:List bX):Int:=TS (us.any λu=>decide (e u=6)) (us.any λu=>decide (e u=12)) (us.any λu=>decide (e u= -1))
theorem Mw{a b:Int}(ha:nC a)(hb:nC b):nC (wO a b):=by
 rcases ha with rfl|rfl|rfl|rfl<;>rcases hb with rfl|rfl|rfl|rfl<;>simp[wO,iJ,IG,nC]
theorem JM{a b c:Int}(ha:nC a)(hb:nC b)(hc:nC c):wO (wO a b) c=wO a (wO b c):=by
 rcases ha with rfl|rfl|rfl|rfl<;>rcases hb with rfl|rfl|rfl|rfl<;>rcases hc with rfl|rfl|rfl|rfl<;>decide
theorem QC(a b c:Bool):nC (TS a b c):=by cases a<;>cases b<;>cases c<;>simp[TS,nC]
theorem FO(e:bX->Int)(us:List bX):nC (JL e us):=QC _ _ _
theorem QD{e:bX->Int}{u:bX}{us:List bX}(h:nC (e u)):JL e (u::us)=wO (e u) (JL e us):=by
 unfold JL;simp only[List.any_cons];generalize us.any (λu=>decide (e u=6))=a;generalize us.any (λu=>decide (e u=12))=b;generalize us.any (λu=>decide (e u= -1))=c;generalize e u=x at*;rcases h with rfl|rfl|rfl|rfl<;>cases a<;>cases b<;>cases c<;>decide
theorem TT(ts:List Nd)(us:List bX):Ag ts us=JL (gU ts) us:=by
 have key:∀(us:List bX) (o:Int),nC o->us.foldl (λout u=>if gU ts u=0 then out else iJ out (gU ts u)) o=wO o (JL (gU ts) us):=λus=>by
  induction us with
  |nil=>intro o _;simp[JL,TS,wO]
  |cons u r ih=>
   intro o ho;have he:=Ah ts u;have hc:(if gU ts u=0 then o else iJ o (gU ts u))=wO o (gU ts u):=rfl;rw[List.foldl_cons,hc,ih _ (Mw ho he),JM ho he (FO _ r),QD he]
 have:=key us 0 (.inl rfl);rw[Ag,this];rcases FO (gU ts) us with h|h|h|h<;>rw[h]<;>decide
theorem DN{l:List Df}{ts:List Nd}(h:ts.map Nd.text=l.map Df.name)(nm:aM):mX ts nm=l.findIdx? λd=>decide (d.name=nm):=by
 have h1:(ts.map Nd.text).findIdx? (λs=>decide (nm=s))=ts.findIdx? (λt=>decide (nm=t.text)):=by rw[List.findIdx?_map];rfl
 have h2:(l.map Df.name).findIdx? (λs=>decide (nm=s))=l.findIdx? (λd=>decide (nm=d.name)):=by rw[List.findIdx?_map];rfl
 unfold mX;rw[<-h1,h,h2];congr 1;funext d;simp[eq_comm]
theorem pX{l:List Df}{ts:List Nd}(h:ts.map Nd.text=l.map Df.name)(nm:aM):fX l nm=pG (mX ts nm):=by
 rw[DN h];unfold fX;rw[mU]
theorem Ho{l:List Df}(h:(l.map bI).map Nd.text=l.map Df.name){nm:aM}{j:Nat}(hj:mX (l.map bI) nm=some j):tAt l nm=(l.map bI).getD j default:=by
 have hlt:=uG hj;have hlt':j<l.length:=by simpa using hlt
 unfold tAt;rw[pX h,hj];simp only[pG,Int.toNat_natCast];rw[List.getD_eq_getElem?_getD,List.getD_eq_getElem?_getD,List.getElem?_eq_getElem hlt',List.getElem?_eq_getElem hlt,Option.getD_some,Option.getD_some,List.getElem_map];rfl
theorem xL{us:List bX}{p q:bX->Bool}(h:∀u∈us,p u=q u):us.any p=us.any q:=by
 induction us with
 |nil=>rfl
 |cons u r ih=>rw[List.any_cons,List.any_cons,h u (List.mem_cons_self ..),ih λv hv=>h v (List.mem_cons_of_mem _ hv)]
theorem DO{l:List Df}(h:(l.map bI).map Nd.text=l.map Df.name)(x:Nd):Ei (l.map bI) x=secondE l (bB x):=by
 have e1:∀u,p1 l u=decide (gU (l.map bI) u=6):=λu=>by
  unfold p1 gU;rw[pX h];cases hj:mX (l.map bI) u.name with
  |none=>simp[pG]
  |some j=>
   simp only[pG];have:¬((j:Int)<0):=by omega
   split
   ·simp[this]
   ·split<;>simp[this]
 have hE:∀u j,mX (l.map bI) u.name=some j->gU (l.map bI) u=if((l.map bI).getD j default).kind≠u.kind then 12 else if u.kind=1/\u.field∉bG ((l.map bI).getD j default)then -1 else 0:=λu j hj=>by unfold gU;rw[hj]
 have e2:∀u,p1 l u=false->p2 l u=decide (gU (l.map bI) u=12):=λu hu=>by
  unfold p1 at hu;rw[pX h]at hu;unfold p2;cases hj:mX (l.map bI) u.name with
  |none=>rw[hj]at hu;simp[pG]at hu
  |some j=>
   rw[Ho h hj,hE u j hj];generalize(l.map bI).getD j default=y;by_cases hk:y.kind≠u.kind
   ·rw[if_pos hk];simp[hk]
   ·rw[if_neg hk];by_cases hf:u.kind=1/\u.field∉bG y
    ·rw[if_pos hf];simpa using hk
    ·rw[if_neg hf];simpa using hk
 have e3:∀u,p1 l u=false->p2 l u=false->p3 l u=decide (gU (l.map bI) u= -1):=λu hu hu2=>by
  unfold p1 at hu;rw[pX h]at hu;unfold p2 at hu2;unfold p3;cases hj:mX (l.map bI) u.name with
  |none=>rw[hj]at hu;simp[pG]at hu
  |some j=>
   rw[Ho h hj]at hu2|-;rw[hE u j hj];generalize(l.map bI).getD j default=y at*;rw[if_neg (by simpa using hu2)];by_cases hf:u.kind=1/\u.field∉bG y
   ·rw[if_pos hf];simp only[hf,not_false_eq_true,and_self]
   ·rw[if_neg hf,decide_eq_false hf];rfl
 unfold Ei;rw[TT];unfold JL TS secondE;rw[xL (p:=p1 l) λu _=>e1 u];by_cases h6:(bB x).any (λu=>decide (gU (l.map bI) u=6))=true
 ·simp only[h6,if_true];decide
 ·have h1:∀u∈bB x,p1 l u=false:=λu hu=>by
   rw[e1];have:=λq=>h6 (List.any_eq_true.2 ⟨u,hu,q⟩);simpa using this
  rw[xL (p:=p2 l) λu hu=>e2 u (h1 u hu)];simp only[if_neg h6];by_cases h12:(bB x).any (λu=>decide (gU (l.map bI) u=12))=true
  ·simp only[h12,if_true];decide
  ·have h2:∀u∈bB x,p2 l u=false:=λu hu=>by
    rw[e2 u (h1 u hu)];have:=λq=>h12 (List.any_eq_true.2 ⟨u,hu,q⟩);simpa using this
   rw[xL (p:=p3 l) λu hu=>e3 u (h1 u hu) (h2 u hu)];simp only[if_neg h12];by_cases hm:(bB x).any (λu=>decide (gU (l.map bI) u= -1))=true
   ·simp only[hm,if_true]
   ·simp only[if_neg hm];decide
inductive pB{α:Type}(S:α->α->Prop):α->α->Prop
 |one {i k:α}:S i k->pB S i k
 |more {i j k:α}:pB S i j->S j k->pB S i k
theorem pB.head{α:Type}{S:α->α->Prop}{i j k:α}(h:S i j)(r:pB S j k):pB S i k:=by
 induction r with
 |one h2=>exact .more (.one h) h2
 |more _ h2 ih=>exact .more ih h2
def rG(ts:List Nd)(b:Int->Bool)(i k:Nat):Prop:=∃u∈bB (ts.getD i default),b u.bk=true/\mX ts u.name=some k
theorem DP(ts:List Nd)(b:Int->Bool):∀(f i:Nat) (M:List Nat),PI ts.length M<f->
 (∀k∈fV ts b f i M,k∈M\/pB (rG ts b) i k)/\(∀k,rG ts b i k->k∈fV ts b f i M)/\∀j∈fV ts b f i M,j∉M->∀k,rG ts b j k->k∈fV ts b f i M
 |0,_,_,h=>absurd h (Nat.not_lt_zero _)
 |f+1,i,M,h=>by
  rw[Ai];have key:∀(us:List bX) (M0:List Nat),(∀u∈us,u∈bB (ts.getD i default))->PI ts.length M0<f+1->
   (∀k∈us.foldl (jE ts b (fV ts b f)) M0,k∈M0\/pB (rG ts b) i k)/\(∀u∈us,∀k,b u.bk=true->mX ts u.name=some k->k∈us.foldl (jE ts b (fV ts b f)) M0)/\
   ∀j∈us.foldl (jE ts b (fV ts b f)) M0,j∉M0->∀k,rG ts b j k->k∈us.foldl (jE ts b (fV ts b f)) M0:=λus=>by
   induction us with
   |nil=>exact λM0 _ _=>⟨λk hk=>.inl hk,by simp,λj hj hn=>absurd hj hn⟩
   |cons u r ihr=>
    intro M0 hu hm;rw[List.foldl_cons];obtain⟨M1,hM1⟩:∃M1,jE ts b (fV ts b f) M0 u=M1:=⟨_,rfl⟩;have hsub:∀k∈M0,k∈M1:=λk hk=>by rw[<-hM1];exact xH ts b f M0 u k hk
    have hm1:PI ts.length M1<f+1:=Nat.lt_of_le_of_lt (SP hsub) hm;obtain⟨r1,r2,r3⟩:=ihr M1 (λv hv=>hu v (List.mem_cons_of_mem _ hv)) hm1;have hkeep:∀k∈M1,k∈r.foldl (jE ts b (fV ts b f)) M1:=λk hk=>pR (xH ts b f) r M1 k hk;have hone:(∀k∈M1,k∈M0\/pB (rG ts b) i k)/\(∀k,b u.bk=true->mX ts u.name=some k->k∈M1)/\∀j∈M1,j∉M0->∀k,rG ts b j k->k∈M1:=by
     unfold jE at hM1;split at hM1
     ·rename_i k hk;split at hM1
      ·rename_i hc;have hst:rG ts b i k:=⟨u,hu u (List.mem_cons_self ..),hc.1,hk⟩;obtain⟨g1,g2,g3⟩:=DP ts b f k (M0++[k]) (by have:=SQ (uG hk) hc.2;omega);have hkM:k∈M1:=by rw[<-hM1];exact xG ts b f k _ k (by simp)
       rw[hM1]at g1 g2 g3;refine⟨λj hj=>?_,λk' _ hk'=>?_,λj hj hn k' hs=>?_⟩
       ·rcases g1 j hj with hj|hj
        ·rcases List.mem_append.1 hj with hj|hj
         ·exact .inl hj
         ·simp at hj;subst hj;exact .inr (.one hst)
        ·exact .inr (.head hst hj)
       ·rw[hk]at hk';injection hk' with e;subst e;exact hkM
       ·by_cases e:j=k
        ·subst e;exact g2 k' hs
        ·exact g3 j hj (by simp[hn,e]) k' hs
      ·rename_i hc;subst hM1;refine⟨λj hj=>.inl hj,λk' hb hk'=>?_,λj hj hn=>absurd hj hn⟩;rw[hk]at hk';injection hk' with e;subst e
       exact Classical.byContradiction λhn=>hc ⟨hb,hn⟩
     ·rename_i hk;subst hM1;exact⟨λj hj=>.inl hj,λk' _ hk'=>(by rw[hk]at hk';cases hk'),λj hj hn=>absurd hj hn⟩
    rw[hM1];refine⟨λk hk=>?_,λv hv k hb hk=>?_,λj hj hn k hs=>?_⟩
    ·rcases r1 k hk with h|h
     ·exact hone.1 k h
     ·exact .inr h
    ·rcases List.mem_cons.1 hv with rfl|hv
     ·exact hkeep k (hone.2.1 k hb hk)
     ·exact r2 v hv k hb hk
    ·by_cases hj1:j∈M1
     ·exact hkeep k (hone.2.2 j hj1 hn k hs)
     ·exact r3 j hj hj1 k hs
  obtain⟨h1,h2,h3⟩:=key (bB (ts.getD i default)) M (λu hu=>hu) h;exact⟨h1,λk ⟨u,hu,hb,hk⟩=>h2 u hu k hb hk,h3⟩
theorem xM(ts:List Nd)(b:Int->Bool)(i k:Nat):k∈iK ts b i↔pB (rG ts b) i k:=by
 obtain⟨h1,h2,h3⟩:=DP ts b (ts.length+1) i [] (Nat.lt_succ_of_le (Nat.le_trans (List.length_filter_le _ _) (by simp)));constructor
 ·intro h;rcases h1 k h with h|h
  ·cases h
  ·exact h
 ·intro h;induction h with
  |one hs=>exact h2 _ hs
  |more _ hs ih=>exact h3 _ ih (by simp) _ hs
def uS(l:List Df)(c:Bool)(nm s:aM):Prop:=0<=fX l nm/\∃u∈bB (tAt l nm),cbR c u.bk=true/\u.name=s
structure YO(l:List Df)(c:Bool)(name:aM)(n:Nat)(st:List aM×List aM):Prop where
 reach:∀s∈st.1,pB (uS l c) name s
 todo:∀s,s∈st.2↔s=name\/s∈st.1
 done:∀j,j<n->∀nm,st.2[j]? =some nm->∀s,uS l c nm s->s∈st.1
theorem QE{c:Bool}{st:List aM×List aM}{u:bX}:(∀s∈st.1,s∈(bfsS c st u).1)/\st.2<+:(bfsS c st u).2/\(∀s∈(bfsS c st u).1,s∈st.1\/(cbR c u.bk=true/\s=u.name))/\(cbR c u.bk=true->u.name∈(bfsS c st u).1)/\∀s,s∈(bfsS c st u).2↔s∈st.2\/(s∈(bfsS c st u).1/\s∉st.1):=by
 unfold bfsS;split
 ·rename_i h;refine⟨λs hs=>mem_putS.2 (.inr hs),List.prefix_append _ _,λs hs=>?_,λ_=>mem_putS.2 (.inl rfl),λs=>?_⟩
  ·rcases mem_putS.1 hs with e|hs
   ·exact .inr ⟨h.1,e⟩
   ·exact .inl hs
  ·constructor
   ·intro hs;rcases List.mem_append.1 hs with hs|hs
    ·exact .inl hs
    ·simp at hs;subst hs;exact .inr ⟨mem_putS.2 (.inl rfl),h.2⟩
   ·rintro(hs|⟨hs,hn⟩)
    ·exact List.mem_append_left _ hs
    ·rcases mem_putS.1 hs with e|hs
     ·subst e;simp
     ·exact absurd hs hn
 ·rename_i h;refine⟨λs hs=>hs,List.prefix_refl _,λs hs=>.inl hs,λhc=>?_,λs=>?_⟩
  ·exact Classical.byContradiction λhn=>h ⟨hc,hn⟩
  ·constructor
   ·exact λhs=>.inl hs
   ·rintro(hs|⟨hs,hn⟩)
    ·exact hs
    ·exact absurd hs hn
theorem JN{U:List aM}{c:Bool}:∀(us:List bX) (st:List aM×List aM),(∀u∈us,u.name∈U)->BfsJ U st->
 (∀s∈st.1,s∈(us.foldl (bfsS c) st).1)/\st.2<+:(us.foldl (bfsS c) st).2/\(∀s∈(us.foldl (bfsS c) st).1,s∈st.1\/∃u∈us,cbR c u.bk=true/\u.name=s)/\(∀u∈us,cbR c u.bk=true->u.name∈(us.foldl (bfsS c) st).1)/\
   (∀s,s∈(us.foldl (bfsS c) st).2↔s∈st.2\/(s∈(us.foldl (bfsS c) st).1/\s∉st.1))/\BfsJ U (us.foldl (bfsS c) st)/\muS U (us.foldl (bfsS c) st).1+(us.foldl (bfsS c) st).2.length<=muS U st.1+st.2.length
 |[],st,_,hJ=>⟨λs hs=>hs,List.prefix_refl _,λs hs=>.inl hs,by simp,λs=>⟨.inl,λh=>h.elim id λh=>absurd h.1 h.2⟩,hJ,Nat.le_refl _⟩
 |u::r,st,hU,hJ=>by
  obtain⟨a1,a2,a3,a4,a5⟩:=QE (c:=c) (st:=st) (u:=u);obtain⟨a6,a7⟩:=bfsS_J (c:=c) (hU u (List.mem_cons_self ..)) hJ;obtain⟨b1,b2,b3,b4,b5,b6,b7⟩:=JN (c:=c) r (bfsS c st u) (λv hv=>hU v (List.mem_cons_of_mem _ hv)) a6;rw[List.foldl_cons];refine⟨λs hs=>b1 s (a1 s hs),a2.trans b2,λs hs=>?_,λv hv hc=>?_,λs=>?_,b6,Nat.le_trans b7 a7⟩
  ·rcases b3 s hs with h|⟨v,hv,hc,e⟩
   ·rcases a3 s h with h|⟨hc,e⟩
    ·exact .inl h
    ·exact .inr ⟨u,List.mem_cons_self ..,hc,e.symm⟩
   ·exact .inr ⟨v,List.mem_cons_of_mem _ hv,hc,e⟩
  ·rcases List.mem_cons.1 hv with rfl|hv
   ·exact b1 _ (a4 hc)
   ·exact b4 v hv hc
  ·rw[b5,a5];constructor
   ·rintro((h|⟨h1,h2⟩)|⟨h1,h2⟩)
    ·exact .inl h
    ·exact .inr ⟨b1 s h1,h2⟩
    ·exact .inr ⟨h1,λh=>h2 (a1 s h)⟩
   ·rintro(h|⟨h1,h2⟩)
    ·exact .inl (.inl h)
    ·by_cases h3:s∈(bfsS c st u).1
     ·exact .inl (.inr ⟨h3,h2⟩)
     ·exact .inr ⟨h1,h3⟩
theorem DQ{l:List Df}{c:Bool}{name:aM}:∀(f n:Nat) (st:List aM×List aM),muS (allU l) st.1+st.2.length<f+n->n<=st.2.length->BfsJ (allU l) st->YO l c name n st->∀s,s∈bfsF l c f n st↔pB (uS l c) name s
 |0,n,st,h,hn,_,_=>by omega
 |f+1,n,st,h,hn,hJ,hI=>by
  intro s;rw[bfsF];cases q:st.2[n]? with
  |none=>
   have hlen:st.2.length<=n:=List.getElem?_eq_none_iff.1 q;simp only;constructor
   ·exact hI.reach s
   ·have all:∀nm,(nm=name\/nm∈st.1)->∀s,uS l c nm s->s∈st.1:=λnm hm s hs=>by
     obtain⟨j,hj,e⟩:=List.getElem_of_mem ((hI.todo nm).2 hm);exact hI.done j (by omega) nm (by rw[List.getElem?_eq_getElem hj,e]) s hs
    intro hr;induction hr with
    |one hs=>exact all name (.inl rfl) _ hs
    |more _ hs ih=>exact all _ (.inr ih) _ hs
  |some nm=>
   simp only;have hlt:n<st.2.length:=(List.getElem?_eq_some_iff.1 q).1;have hnm:=(hI.todo nm).1 (List.mem_of_getElem? q);unfold bfsN;by_cases hx:fX l nm<0
   ·rw[if_pos hx];refine DQ f (n+1) st (by omega) (by omega) hJ ⟨hI.reach,hI.todo,λj hj nm' hj' s hs=>?_⟩ s;by_cases e:j=n
    ·subst e;rw[q]at hj';injection hj' with e;subst e;exact absurd hs.1 (by omega)
    ·exact hI.done j (by omega) nm' hj' s hs
   ·rw[if_neg hx];obtain⟨b1,b2,b3,b4,b5,b6,b7⟩:=JN (U:=allU l) (c:=c) (bB (tAt l nm)) st (uses_allU (by omega)) hJ;have hpl:=b2.length_le;refine DQ f (n+1) _ (by omega) (by omega) b6 ⟨λs hs=>?_,λs=>?_,λj hj nm' hj' s hs=>?_⟩ s
    ·rcases b3 s hs with h|⟨u,hu,hc,e⟩
     ·exact hI.reach s h
     ·have hs':uS l c nm s:=⟨by omega,u,hu,hc,e⟩;rcases hnm with rfl|hnm
      ·exact .one hs'
      ·exact .more (hI.reach nm hnm) hs'
    ·rw[b5,hI.todo];constructor
     ·rintro((h|h)|h)
      ·exact .inl h
      ·exact .inr (b1 s h)
      ·exact .inr h.1
     ·rintro(h|h)
      ·exact .inl (.inl h)
      ·by_cases h2:s∈st.1
       ·exact .inl (.inr h2)
       ·exact .inr ⟨h,h2⟩
    ·by_cases e:j=n
     ·subst e;have hj2:(List.foldl (bfsS c) st (bB (tAt l nm))).2[j]? =some nm:=by
       obtain⟨t,ht⟩:=b2;rw[<-ht,List.getElem?_append_left hlt];exact q
      rw[hj2]at hj';injection hj' with e;subst e
      obtain⟨_,u,hu,hc,e⟩:=hs;rw[<-e];exact b4 u hu hc
     ·have hj3:st.2[j]? =some nm':=by
       obtain⟨t,ht⟩:=b2;rw[<-ht,List.getElem?_append_left (by omega)]at hj';exact hj'
      exact b1 s (hI.done j (by omega) nm' hj3 s hs)
theorem xN(l:List Df)(c:Bool)(name s:aM):s∈reachR l name c↔pB (uS l c) name s:=by
 refine DQ ((allU l).length+2) 0 ([],[name]) (by rw[muS_nil];simp) (Nat.zero_le _) ⟨by simp[muS_nil],rfl⟩ ⟨by simp,by simp,λj h=>absurd h (Nat.not_lt_zero _)⟩ s
section
theorem zH{p q:Nat->Bool}{n:Nat}(h:∀i<n,p i=q i):dA p n=dA q n:=by
 unfold dA;have:∀l:List Nat,(∀i∈l,p i=q i)->l.find? p=l.find? q:=λl=>by
  induction l with
  |nil=>intro _;rfl
  |cons a r ih=>
   intro hl;rw[List.find?_cons,List.find?_cons,hl a (List.mem_cons_self ..),ih λi hi=>hl i (List.mem_cons_of_mem _ hi)]
 exact this _ λi hi=>h i (List.mem_range.1 hi)
theorem zI{l:List Df}(h:(l.map bI).map Nd.text=l.map Df.name){nm:aM}{k:Nat}(hk:mX (l.map bI) nm=some k):∃hl:k<l.length,l[k].name=nm:=by
 rw[DN h]at hk;obtain⟨hl,h1,_⟩:=List.findIdx?_eq_some_iff_getElem.1 hk;exact⟨hl,by simpa using h1⟩
theorem uT{l:List Df}(hn:(l.map Df.name).Nodup){i j:Nat}(hi:i<l.length)(hj:j<l.length)(e:l[i].name=l[j].name):i=j:=by
 have:=List.pairwise_iff_getElem.1 hn;rcases Nat.lt_trichotomy i j with h|h|h
 ·exact absurd (by rw[List.getElem_map,List.getElem_map];exact e) (this i j (by simpa using hi) (by simpa using hj) h)
 ·exact h
 ·exact absurd (by rw[List.getElem_map,List.getElem_map];exact e.symm) (this j i (by simpa using hj) (by simpa using hi) h)
theorem Hp{l:List Df}(h:(l.map bI).map Nd.text=l.map Df.name)(hn:(l.map Df.name).Nodup){i:Nat}(hi:i<l.length):mX (l.map bI) l[i].name=some i:=by
 cases q:mX (l.map bI) l[i].name with
 |none=>
  rw[DN h,List.findIdx?_eq_none_iff]at q;have:=q l[i] (List.getElem_mem hi);simp at this
 |some j=>
  obtain⟨hj,e⟩:=zI h q;rw[uT hn hj hi e]
theorem JO(k:Int):cbR true k=DD k:=by simp[cbR,DD]
section
variable{l:List Df} (h:(l.map bI).map Nd.text=l.map Df.name) (hn:(l.map Df.name).Nodup) (hq:∀i<l.length,q2 l i=false)
include h hn hq
omit hq in
theorem Oc{b:Int->Bool}{c:Bool}(hb:∀k,cbR c k=b k){i k:Nat}(hi:i<l.length)(hs:rG (l.map bI) b i k):∃hk:k<l.length,uS l c l[i].name l[k].name:=by
 obtain⟨u,hu,hc,hk⟩:=hs;obtain⟨hkl,e⟩:=zI h hk;have ho:=Hp h hn hi;refine⟨hkl,?_,u,?_,by rw[hb];exact hc,e.symm⟩
 ·rw[pX h,ho];simp[pG]
 ·rw[Ho h ho];exact hu
theorem FP{b:Int->Bool}{c:Bool}(hb:∀k,cbR c k=b k){i:Nat}{s:aM}(hi:i<l.length)(hs:uS l c l[i].name s):∃k,∃hk:k<l.length,s=l[k].name/\rG (l.map bI) b i k:=by
 obtain⟨_,u,hu,hc,e⟩:=hs;have ho:=Hp h hn hi;rw[Ho h ho]at hu;have h2:=hq i hi;have hg:(l.map bI).getD i default=bI (l.getD i default):=by
  rw[List.getD_eq_getElem?_getD,List.getD_eq_getElem?_getD,List.getElem?_map,List.getElem?_eq_getElem hi];rfl
 have h3:secondE l (bB (bI (l.getD i default)))=0:=Classical.byContradiction λhc=>by unfold q2 at h2;exact absurd (decide_eq_true hc) (by unfold bI;rw[h2];simp)
 rw[<-hg]at h3;have h4:(bB ((l.map bI).getD i default)).any (p1 l)=false:=by
  rw[Bool.eq_false_iff];intro q;unfold secondE at h3;rw[if_pos q]at h3;cases h3
 have h5:p1 l u=false:=by
  rw[List.any_eq_false]at h4;simpa using h4 u hu
 unfold p1 at h5;rw[pX h]at h5;cases q:mX (l.map bI) u.name with
 |none=>rw[q]at h5;simp[pG]at h5
 |some k=>
  obtain⟨hk,e2⟩:=zI h q;exact⟨k,hk,by rw[<-e,e2],u,hu,by rw[<-hb];exact hc,q⟩
omit hq in
theorem JP{b:Int->Bool}{c:Bool}(hb:∀k,cbR c k=b k){i k:Nat}(hi:i<l.length)(hr:pB (rG (l.map bI) b) i k):∃hk:k<l.length,pB (uS l c) l[i].name l[k].name:=by
 induction hr with
 |one hs=>obtain⟨hk,hs'⟩:=Oc h hn hb hi hs;exact⟨hk,.one hs'⟩
 |more _ hs ih=>
  obtain⟨hj,hr'⟩:=ih;obtain⟨hk,hs'⟩:=Oc h hn hb hj hs;exact⟨hk,.more hr' hs'⟩
theorem DR{b:Int->Bool}{c:Bool}(hb:∀k,cbR c k=b k){i:Nat}{s:aM}(hi:i<l.length)(hr:pB (uS l c) l[i].name s):∃k,∃hk:k<l.length,s=l[k].name/\pB (rG (l.map bI) b) i k:=by
 induction hr with
 |one hs=>obtain⟨k,hk,e,hs'⟩:=FP h hn hq hb hi hs;exact⟨k,hk,e,.one hs'⟩
 |more _ hs ih=>
  obtain⟨j,hj,rfl,hr'⟩:=ih;obtain⟨k,hk,e,hs'⟩:=FP h hn hq hb hj hs;exact⟨k,hk,e,.more hr' hs'⟩
theorem Xz{i:Nat}(hi:i<l.length):Hd (l.map bI) i=q3 l i:=by
 have hg:l.getD i default=l[i]:=by rw[List.getD_eq_getElem?_getD,List.getElem?_eq_getElem hi];rfl
 unfold Hd q3;rw[hg,decide_eq_decide,xM,xN];constructor
 ·intro hr;obtain⟨_,hr'⟩:=JP h hn JO hi hr;exact hr'
 ·intro hr;obtain⟨k,hk,e,hr'⟩:=DR h hn hq JO hi hr;rw[<-uT hn hi hk e]at hr';exact hr'
end
theorem Hq(l:List Df):(lE l).2=chkR l:=by
 unfold lE chkR;by_cases h24:24<l.length
 ·have:dB l=([],0,4):=by unfold dB;rw[if_pos h24]
  rw[if_pos h24,this];rfl
 ·rw[if_neg h24];have hf:=Bq (l:=l) (by omega);unfold chkR1;cases q:dA (q1 l) l.length with
  |some k=>
   rw[q]at hf;obtain⟨h1,h2⟩:=hf;simp only;rw[if_pos h2,h1]
  |none=>
   rw[q]at hf;simp only at hf|-;have h0:(dB l).2.2=0:=by rw[hf]
   obtain⟨hnm,hnd⟩:=pV h0;rw[hf]at hnm;simp only at hnm;rw[if_neg (by rw[h0];simp),hf];simp only[List.length_map];have hb:∀i<l.length,Hc (l.map bI) i=q2 l i:=λi hi=>by
    have hg:(l.map bI).getD i default=bI (l.getD i default):=by
     rw[List.getD_eq_getElem?_getD,List.getD_eq_getElem?_getD,List.getElem?_map,List.getElem?_eq_getElem hi];rfl
    unfold Hc q2;rw[DO hnm,hg];rfl
   rw[zH hb];unfold chkR2;cases q':dA (q2 l) l.length with
   |some i=>
    simp only;have hi:i<l.length:=by
     unfold dA at q';exact List.mem_range.1 (List.mem_of_find?_eq_some q')
    have hg:(l.map bI).getD i default=bI (l.getD i default):=by
     rw[List.getD_eq_getElem?_getD,List.getD_eq_getElem?_getD,List.getElem?_map,List.getElem?_eq_getElem hi];rfl
    rw[DO hnm,hg];rfl
   |none=>
    simp only;have hq:∀i<l.length,q2 l i=false:=λi hi=>by
     unfold dA at q';rw[List.find?_eq_none]at q';simpa using q' i (List.mem_range.2 hi)
    rw[zH λi hi=>Xz hnm hnd hq hi];unfold chkR3;cases dA (q3 l) l.length<;>rfl
end
def zJ(l:List Df)(c:Bool)(a b:aM):Prop:=∃d∈l,d.name=a/\∃u∈bB (bI d),cbR c u.bk=true/\u.name=b
def Br(d:Df):Prop:=(parseS d.text).2.2=0/\(bI d).text=d.name/\(bG (bI d)).Nodup
def TU(l:List Df)(u:bX):Prop:=∃e∈l,e.name=u.name/\(bI e).kind=u.kind/\(u.kind=1->u.field∈bG (bI e))
structure DS(l:List Df):Prop where
 len:l.length<=24
 names:(l.map Df.name).Nodup
 fine:∀d∈l,Br d
 uses:∀d∈l,∀u∈bB (bI d),TU l u
 calls:∀d∈l,¬pB (zJ l true) d.name d.name
theorem mD{p:Nat->Bool}{n:Nat}:dA p n=none↔∀i<n,p i=false:=by
 unfold dA;rw[List.find?_eq_none];constructor
 ·intro h i hi;simpa using h i (List.mem_range.2 hi)
 ·intro h i hi;simpa using h i (List.mem_range.1 hi)
theorem JQ{l:List Df}{nm:aM}:fX l nm<0↔∀d∈l,d.name≠nm:=by
 unfold fX;rw[mU];cases q:l.findIdx? (λd=>decide (d.name=nm))with
 |none=>
  rw[List.findIdx?_eq_none_iff]at q;exact⟨λ_ d hd=>by simpa using q d hd,λ_=>by simp[pG]⟩
 |some i=>
  obtain⟨hi,h1,_⟩:=List.findIdx?_eq_some_iff_getElem.1 q;refine⟨λh=>?_,λh=>absurd (by simpa using h1) (h l[i] (List.getElem_mem hi))⟩;simp[pG]at h;omega
theorem uU{l:List Df}{nm:aM}(h:0<=fX l nm):∃i,∃hi:i<l.length,fX l nm=(i:Nat)/\l[i].name=nm/\tAt l nm=bI l[i]/\∀j,∀hj:j<l.length,j<i->l[j].name≠nm:=by
 obtain⟨i,d,e,hd,ht⟩:=idxN_lt h;obtain⟨hi,hd⟩:=List.getElem?_eq_some_iff.1 hd;unfold fX at e;rw[mU]at e;cases q:l.findIdx? (λd=>decide (d.name=nm))with
 |none=>rw[q]at e;simp[pG]at e
 |some k=>
  obtain⟨hk,h1,h2⟩:=List.findIdx?_eq_some_iff_getElem.1 q;rw[q]at e;have e:k=i:=by simp[pG]at e;omega
  subst e;refine⟨k,hk,?_,by simpa using h1,by rw[ht,<-hd];rfl,λj hj hjk=>by simpa using h2 j hjk⟩;unfold fX;rw[mU,q];rfl
theorem Hr{l:List Df}(hn:(l.map Df.name).Nodup){d:Df}(hd:d∈l):0<=fX l d.name/\tAt l d.name=bI d/\l.getD (fX l d.name).toNat default=d:=by
 have h0:0<=fX l d.name:=by
  by_cases h:fX l d.name<0
  ·exact absurd rfl (JQ.1 h d hd)
  ·omega
 obtain⟨i,hi,e,hnm,ht,_⟩:=uU h0;obtain⟨j,hj,rfl⟩:=List.getElem_of_mem hd;have:=uT hn hi hj hnm;subst this;refine⟨h0,ht,?_⟩;rw[e,Int.toNat_natCast,List.getD_eq_getElem?_getD,List.getElem?_eq_getElem hi];rfl
theorem FQ{l:List Df}(hn:(l.map Df.name).Nodup){c:Bool}{a b:aM}:uS l c a b↔zJ l c a b:=by
 constructor
 ·rintro⟨h0,u,hu,hc,e⟩;obtain⟨i,hi,_,hnm,ht,_⟩:=uU h0;exact⟨l[i],List.getElem_mem hi,hnm,u,by rw[<-ht];exact hu,hc,e⟩
 ·rintro⟨d,hd,rfl,u,hu,hc,e⟩;obtain⟨h0,ht,_⟩:=Hr hn hd;exact⟨h0,u,by rw[ht];exact hu,hc,e⟩
theorem pB.mono{α:Type}{S T:α->α->Prop}(h:∀a b,S a b->T a b){i k:α}(r:pB S i k):pB T i k:=by
 induction r with
 |one h2=>exact .one (h _ _ h2)
 |more _ h2 ih=>exact .more ih (h _ _ h2)
theorem DT{l:List Df}(hn:(l.map Df.name).Nodup){c:Bool}{a s:aM}:s∈reachR l a c↔pB (zJ l c) a s:=by
 rw[xN];exact⟨pB.mono λ_ _=>(FQ hn).1,pB.mono λ_ _=>(FQ hn).2⟩
theorem wC{l:List Df}{i:Nat}(hi:i<l.length):l.getD i default=l[i]:=by
 rw[List.getD_eq_getElem?_getD,List.getElem?_eq_getElem hi];rfl
theorem JR{l:List Df}:(chkR l).2=0↔l.length<=24/\(∀i<l.length,q1 l i=false)/\(∀i<l.length,q2 l i=false)/\∀i<l.length,q3 l i=false:=by
 unfold chkR;by_cases h24:24<l.length
 ·rw[if_pos h24];exact⟨λh=>by simp at h,λh=>by omega⟩
 rw[if_neg h24];unfold chkR1;cases q:dA (q1 l) l.length with
 |some i=>
  simp only;have h1:q1 l i=true/\i<l.length:=by
   unfold dA at q;exact⟨by simpa using List.find?_some q,List.mem_range.1 (List.mem_of_find?_eq_some q)⟩
  refine⟨λh=>?_,λh=>?_⟩
  ·have:=h1.1;unfold q1 at this;exact absurd h (of_decide_eq_true this)
  ·rw[h.2.1 i h1.2]at h1;simp at h1
 |none=>
  simp only;have q:=mD.1 q;unfold chkR2;cases q':dA (q2 l) l.length with
  |some i=>
   simp only;have h1:q2 l i=true/\i<l.length:=by
    unfold dA at q';exact⟨by simpa using List.find?_some q',List.mem_range.1 (List.mem_of_find?_eq_some q')⟩
   refine⟨λh=>?_,λh=>?_⟩
   ·have:=h1.1;unfold q2 at this;exact absurd h (of_decide_eq_true this)
   ·rw[h.2.2.1 i h1.2]at h1;simp at h1
  |none=>
   simp only;have q':=mD.1 q';unfold chkR3;cases q'':dA (q3 l) l.length with
   |some i=>
    simp only;have h1:q3 l i=true/\i<l.length:=by
     unfold dA at q'';exact⟨by simpa using List.find?_some q'',List.mem_range.1 (List.mem_of_find?_eq_some q'')⟩
    refine⟨λh=>by simp at h,λh=>?_⟩;rw[h.2.2.2 i h1.2]at h1;simp at h1
   |none=>
    have q'':=mD.1 q'';exact⟨λ_=>⟨by omega,q,q',q''⟩,λ_=>rfl⟩
theorem XA{l:List Df}(h:(chkR l).2=0):chkR l=((l.length:Int),0):=by
 obtain⟨h24,h1,h2,h3⟩:=JR.1 h;unfold chkR chkR1 chkR2 chkR3;rw[if_neg (by omega),mD.2 h1];simp only;rw[mD.2 h2];simp only;rw[mD.2 h3]
theorem XB{l:List Df}:(∀i<l.length,q1 l i=false)↔(l.map Df.name).Nodup/\∀d∈l,Br d:=by
 constructor
 ·intro h;have h':∀i,∀hi:i<l.length,Br l[i]/\¬fX l l[i].name<(i:Int):=λi hi=>by
   have:=h i hi;unfold q1 at this;rw[wC hi,decide_eq_false_iff_not,ne_eq,Decidable.not_not]at this;unfold firstE at this;split at this
   ·exact absurd this ‹_›
   ·split at this
    ·simp at this
    ·split at this
     ·simp at this
     ·split at this
      ·rename_i a b c d;exact⟨⟨Decidable.not_not.1 a,Decidable.not_not.1 b,d⟩,c⟩
      ·simp at this
  refine⟨List.pairwise_iff_getElem.2 λi j hi hj hij=>?_,λd hd=>?_⟩
  ·simp only[List.length_map]at hi hj;rw[List.getElem_map,List.getElem_map];intro e;have hj2:=(h' j hj).2;obtain⟨k,hk,ek,hnm,_,hf⟩:=uU (l:=l) (nm:=l[j].name) (by
    by_cases q:fX l l[j].name<0
    ·exact absurd rfl (JQ.1 q l[j] (List.getElem_mem hj))
    ·omega)
   rw[ek]at hj2;exact hf i hi (by omega) e
  ·obtain⟨i,hi,rfl⟩:=List.getElem_of_mem hd;exact(h' i hi).1
 ·rintro⟨hn,hf⟩ i hi;obtain⟨a,b,d⟩:=hf l[i] (List.getElem_mem hi);unfold q1;rw[wC hi,decide_eq_false_iff_not,ne_eq,Decidable.not_not];unfold firstE;rw[if_neg (by simpa using a),if_neg (by simpa [bI]using b),if_neg,if_pos (by simpa [bI]using d)];obtain⟨h0,_,_⟩:=Hr hn (List.getElem_mem hi);obtain⟨k,hk,ek,hnm,_,_⟩:=uU h0;rw[ek,uT hn hk hi hnm];omega
theorem FR{l:List Df}(hn:(l.map Df.name).Nodup){u:bX}:TU l u↔p1 l u=false/\p2 l u=false/\p3 l u=false:=by
 unfold p1 p2 p3;simp only[decide_eq_false_iff_not];constructor
 ·rintro⟨e,he,hnm,hk,hf⟩;obtain⟨h0,ht,_⟩:=Hr hn he;rw[hnm]at h0 ht;refine⟨by omega,by rw[ht];simpa using hk,?_⟩;rw[ht];exact λh=>h.2 (hf h.1)
 ·rintro⟨h1,h2,h3⟩;obtain⟨i,hi,_,hnm,ht,_⟩:=uU (l:=l) (nm:=u.name) (by omega);rw[ht]at h2 h3;refine⟨l[i],List.getElem_mem hi,hnm,by simpa using h2,λhk=>?_⟩;exact Classical.byContradiction λhc=>h3 ⟨hk,hc⟩
theorem Bs{l:List Df}(hn:(l.map Df.name).Nodup){us:List bX}:secondE l us=0↔∀u∈us,TU l u:=by
 unfold secondE;constructor
 ·intro h u hu;split at h
  ·simp at h
  ·split at h
   ·simp at h
   ·split at h
    ·simp at h
    ·rename_i a b c;simp only[List.any_eq_true,not_exists,not_and,Bool.not_eq_true]at a b c;exact(FR hn).2 ⟨a u hu,b u hu,c u hu⟩
 ·intro h;rw[if_neg,if_neg,if_neg]<;>(simp only[List.any_eq_true,not_exists,not_and,Bool.not_eq_true];intro u hu;have:=(FR hn).1 (h u hu);simp[this])
theorem Mx{l:List Df}:(chkR l).2=0↔DS l:=by
 rw[JR,XB];constructor
 ·rintro⟨h0,⟨hn,hf⟩,h2,h3⟩;refine⟨h0,hn,hf,λd hd=>?_,λd hd=>?_⟩
  ·obtain⟨i,hi,rfl⟩:=List.getElem_of_mem hd;have:=h2 i hi;unfold q2 at this;rw[wC hi,decide_eq_false_iff_not,ne_eq,Decidable.not_not]at this;exact(Bs hn).1 this
  ·obtain⟨i,hi,rfl⟩:=List.getElem_of_mem hd;have:=h3 i hi;unfold q3 at this;rw[wC hi,decide_eq_false_iff_not,DT hn]at this;exact this
 ·rintro⟨h0,hn,hf,hu,hc⟩;refine⟨h0,⟨hn,hf⟩,λi hi=>?_,λi hi=>?_⟩
  ·unfold q2;rw[wC hi,decide_eq_false_iff_not,ne_eq,Decidable.not_not];exact(Bs hn).2 (hu _ (List.getElem_mem hi))
  ·unfold q3;rw[wC hi,decide_eq_false_iff_not,DT hn];exact hc _ (List.getElem_mem hi)
theorem DS.perm{a b:List Df}(h:DS a)(p:a.Perm b):DS b:=by
 have hm:∀d,d∈b↔d∈a:=λd=>p.symm.mem_iff;refine⟨by rw[<-p.length_eq];exact h.len,(p.map _).nodup_iff.1 h.names,λd hd=>h.fine d ((hm d).1 hd),λd hd u hu=>?_,λd hd hr=>?_⟩
 ·obtain⟨e,he,r⟩:=h.uses d ((hm d).1 hd) u hu;exact⟨e,(hm e).2 he,r⟩
 ·refine h.calls d ((hm d).1 hd) (hr.mono ?_);rintro x y ⟨e,he,r⟩;exact⟨e,(hm e).1 he,r⟩
theorem QF{l:List Df}(h:∀d∈l,∀u∈bB (bI d),u.bk=14->∀e∈l,e.name=u.name->∀v∈bB (bI e),v.bk≠14){a:aM}:¬pB (zJ l true) a a:=by
 intro hr;have key:∀x y,pB (zJ l true) x y->∀z,¬zJ l true y z:=by
  intro x y hxy;have hl:∃d∈l,∃u∈bB (bI d),u.bk=14/\u.name=y:=by
   cases hxy with
   |one h2=>obtain⟨d,hd,_,u,hu,hc,e⟩:=h2;exact⟨d,hd,u,hu,by simpa [cbR]using hc,e⟩
   |more _ h2=>obtain⟨d,hd,_,u,hu,hc,e⟩:=h2;exact⟨d,hd,u,hu,by simpa [cbR]using hc,e⟩
  obtain⟨d,hd,u,hu,hc,e⟩:=hl;rintro z ⟨e2,he2,hn2,v,hv,hvc,_⟩;exact h d hd u hu hc e2 he2 (by rw[hn2,e]) v hv (by simpa [cbR]using hvc)
 have:∃z,zJ l true a z:=by
  have:∀x y,pB (zJ l true) x y->∃z,zJ l true x z:=by
   intro x y hxy;induction hxy with
   |one h2=>exact⟨_,h2⟩
   |more _ _ ih=>exact ih
  exact this _ _ hr
 obtain⟨z,hz⟩:=this;exact key _ _ hr z hz
def Od(ts:List (aM×Nd×Int×Int))(sh:Bool)(u:bX):Bool:=
 (sh&&decide (u.name=eY.name)&&decide (u.kind=0)&&decide (u.bk≠14))||
   ts.any λp=>decide (p.1=u.name)&&decide (p.2.1.kind=u.kind)&&(decide (u.kind≠1)||decide (u.field∈bG p.2.1))&&(decide (u.bk≠14)||(bB p.2.1).all λv=>decide (v.bk≠14))
def TV(c:UInt8)(sh:Bool)(ts:List (aM×Nd×Int×Int)):Bool:=
 decide (ts.length<=6)&&decide ((ts.map Prod.fst).Nodup)&&ts.all (λp=>decide (p.1.getLast?=some c)&&decide (p.2.2.2=0)&&decide (p.2.1.text=p.1)&&decide ((bG p.2.1).Nodup)&&(bB p.2.1).all (Od ts sh))
def gX(c:UInt8)(sh:Bool)(l:List Df):Bool:=TV c sh (l.map λd=>(d.name,parseS d.text))
structure My(c:UInt8)(sh:Bool)(l:List Df):Prop where
 len:l.length<=6
 names:(l.map Df.name).Nodup
 last:∀d∈l,d.name.getLast?=some c
 fine:∀d∈l,Br d
 uses:∀d∈l,∀u∈bB (bI d),(sh=true/\u.name=eY.name/\u.kind=0/\u.bk≠14)\/
  ∃e∈l,e.name=u.name/\(bI e).kind=u.kind/\(u.kind=1->u.field∈bG (bI e))/\(u.bk=14->∀v∈bB (bI e),v.bk≠14)
theorem TW{c:UInt8}{sh:Bool}{l:List Df}(h:gX c sh l=true):My c sh l:=by
 unfold gX TV at h;simp only[Bool.and_eq_true,decide_eq_true_eq,List.length_map,List.map_map,List.all_eq_true,List.mem_map,forall_exists_index,and_imp,forall_apply_eq_imp_iff₂]at h;obtain⟨⟨h1,h2⟩,h3⟩:=h;refine⟨h1,h2,λd hd=>(h3 d hd).1.1.1.1,λd hd=>⟨(h3 d hd).1.1.1.2,(h3 d hd).1.1.2,(h3 d hd).1.2⟩,λd hd u hu=>?_⟩;have hf:=(h3 d hd).2 u hu;unfold Od at hf;simp only[Bool.or_eq_true,Bool.and_eq_true,decide_eq_true_eq,List.any_eq_true,List.mem_map,List.all_eq_true]at hf;rcases hf with hf|⟨p,⟨e,he,rfl⟩,⟨⟨⟨a,b⟩,c⟩,f⟩⟩
 ·exact .inl ⟨hf.1.1.1,hf.1.1.2,hf.1.2,hf.2⟩
 ·refine .inr ⟨e,he,a,b,λhk=>c.resolve_left λhc=>hc hk,λhk v hv=>?_⟩;exact(f.resolve_left λhc=>hc hk) v hv
set_option maxRecDepth 100000 in
theorem VO:((List.range 3).all λi=>(List.range 8).all λv=>gX (UInt8.ofNat (48+i)) false (fI 0 i v))=true:=by kernel_rfl
set_option maxRecDepth 100000 in
theorem VP:((List.range 3).all λi=>(List.range 8).all λv=>gX (UInt8.ofNat (48+i)) false (fI 1 i v))=true:=by kernel_rfl
set_option maxRecDepth 100000 in
theorem VQ:((List.range 3).all λi=>(List.range 4).all λv=>gX (UInt8.ofNat (48+i)) false (fI 2 i v))=true:=by kernel_rfl
set_option maxRecDepth 100000 in
theorem VR:((List.range 3).all λi=>(List.range 2).all λv=>gX (UInt8.ofNat (48+i)) false (fI 3 i v))=true:=by kernel_rfl
set_option maxRecDepth 100000 in
theorem VS:((List.range 3).all λi=>(List.range 2).all λv=>gX (UInt8.ofNat (48+i)) false (fI 4 i v))=true:=by kernel_rfl
set_option maxRecDepth 100000 in
theorem VT:((List.range 3).all λi=>(List.range 4).all λv=>gX (UInt8.ofNat (48+i)) false (fI 5 i v))=true:=by kernel_rfl
set_option maxRecDepth 100000 in
theorem VU:((List.range 3).all λi=>(List.range 3).all λv=>gX (UInt8.ofNat (48+i)) false (fI 6 i v))=true:=by kernel_rfl
set_option maxRecDepth 100000 in
theorem VV:((List.range 3).all λi=>(List.range 3).all λv=>gX (UInt8.ofNat (48+i)) false (fI 7 i v))=true:=by kernel_rfl
set_option maxRecDepth 100000 in
theorem VW:((List.range 3).all λi=>(List.range 2).all λv=>gX (UInt8.ofNat (48+i)) false (fI 8 i v))=true:=by kernel_rfl
set_option maxRecDepth 100000 in
theorem VX:((List.range 3).all λi=>(List.range 2).all λv=>gX (UInt8.ofNat (48+i)) true (fI 9 i v))=true:=by kernel_rfl
set_option maxRecDepth 100000 in
theorem TX:((List.range 3).all λi=>(List.range 3).all λv=>gX (UInt8.ofNat (48+i)) false (fI 10 i v))=true:=by kernel_rfl
set_option maxRecDepth 100000 in
theorem TY:((List.range 3).all λi=>(List.range 3).all λv=>gX (UInt8.ofNat (48+i)) false (fI 11 i v))=true:=by kernel_rfl
set_option maxRecDepth 100000 in
theorem TZ:((List.range 3).all λi=>(List.range 3).all λv=>gX (UInt8.ofNat (48+i)) false (fI 12 i v))=true:=by kernel_rfl
set_option maxRecDepth 100000 in
theorem Ua:((List.range 3).all λi=>(List.range 18).all λv=>gX (UInt8.ofNat (48+i)) false (fI 13 i v))=true:=by kernel_rfl
theorem Mz(v:Nat):cC (v%8) 0=cC v 0:=by
 simp only[cC,sM,gV,sX,lK,gW,lL,lM,show v%8%2=v%2 by omega,show v%8 / 2%4=v / 2%4 by omega]
theorem MA(v:Nat):cC (v%8) 1=cC v 1:=by
 simp only[cC,sM,gV,sX,lK,gW,lL,lM,show v%8%2=v%2 by omega,show v%8 / 2%4=v / 2%4 by omega]
theorem MB(v:Nat):cC (v%4) 2=cC v 2:=by
 simp only[cC,sM,gV,sX,lK,gW,lL,lM,show v%4%2=v%2 by omega,show v%4 / 2%2=v / 2%2 by omega]
theorem MC(v:Nat):cC (v%2) 3=cC v 3:=by
 simp only[cC,sM,gV,sX,lK,gW,lL,lM,show v%2%2=v%2 by omega]
theorem MD(v:Nat):cC (v%2) 4=cC v 4:=by
 simp only[cC,sM,gV,sX,lK,gW,lL,lM,show v%2%2=v%2 by omega]
theorem ME(v:Nat):cC (v%4) 5=cC v 5:=by
 simp only[cC,sM,gV,sX,lK,gW,lL,lM,show v%4%2=v%2 by omega,show v%4 / 2%2=v / 2%2 by omega]
theorem MF(v:Nat):cC (v%3) 6=cC v 6:=by
 simp only[cC,sM,gV,sX,lK,gW,lL,lM,show v%3%3=v%3 by omega]
theorem MG(v:Nat):cC (v%3) 7=cC v 7:=by
 simp only[cC,sM,gV,sX,lK,gW,lL,lM,show v%3%3=v%3 by omega]
theorem MH(v:Nat):cC (v%2) 8=cC v 8:=by
 simp only[cC,sM,gV,sX,lK,gW,lL,lM,show v%2%2=v%2 by omega]
theorem MI(v:Nat):cC (v%2) 9=cC v 9:=by
 simp only[cC,sM,gV,sX,lK,gW,lL,lM,show v%2%2=v%2 by omega]
theorem JS(v:Nat):cC (v%3) 10=cC v 10:=by
 simp only[cC,sM,gV,sX,lK,gW,lL,lM,show v%3%3=v%3 by omega]
theorem JT(v:Nat):cC (v%3) 11=cC v 11:=by
 simp only[cC,sM,gV,sX,lK,gW,lL,lM,show v%3%3=v%3 by omega]
theorem JU(v:Nat):cC (v%3) 12=cC v 12:=by
 simp only[cC,sM,gV,sX,lK,gW,lL,lM,show v%3%3=v%3 by omega]
theorem JV(v:Nat):cC (v%18) 13=cC v 13:=by
 simp only[cC,sM,gV,sX,lK,gW,lL,lM,show v%18%9=v%9 by omega,show v%18 / 9%2=v / 9%2 by omega]
theorem JW{k i v:Nat}(hk:k<14)(hi:i<3):My (UInt8.ofNat (48+i)) (decide (k=9)) (fI k i v):=by
 refine TW ?_;have key:∀(m:Nat) (b:Bool),0<m->cC (v%m) k=cC v k->((List.range 3).all λi=>(List.range m).all λv=>gX (UInt8.ofNat (48+i)) b (fI k i v))=true->gX (UInt8.ofNat (48+i)) b (fI k i v)=true:=by
  intro m b hm he h;have:=List.all_eq_true.1 (List.all_eq_true.1 h i (List.mem_range.2 hi)) (v%m) (List.mem_range.2 (Nat.mod_lt _ hm));unfold fI at this|-;rw[he]at this;exact this
 match k,hk with
 |0,_=>exact key 8 false (by decide) (Mz v) VO
 |1,_=>exact key 8 false (by decide) (MA v) VP
 |2,_=>exact key 4 false (by decide) (MB v) VQ
 |3,_=>exact key 2 false (by decide) (MC v) VR
 |4,_=>exact key 2 false (by decide) (MD v) VS
 |5,_=>exact key 4 false (by decide) (ME v) VT
 |6,_=>exact key 3 false (by decide) (MF v) VU
 |7,_=>exact key 3 false (by decide) (MG v) VV
 |8,_=>exact key 2 false (by decide) (MH v) VW
 |9,_=>exact key 2 true (by decide) (MI v) VX
 |10,_=>exact key 3 false (by decide) (JS v) TX
 |11,_=>exact key 3 false (by decide) (JT v) TY
 |12,_=>exact key 3 false (by decide) (JU v) TZ
 |13,_=>exact key 18 false (by decide) (JV v) Ua
structure XC(k:Nat)(st:List Df×Bool):Prop where
 len:st.1.length<=6*k+st.2.toNat
 names:(st.1.map Df.name).Nodup
 last:∀d∈st.1,(d=eY/\st.2=true)\/∃j<k,d.name.getLast?=some (UInt8.ofNat (48+j))
 shared:st.2=true->eY∈st.1
 fine:∀d∈st.1,Br d
 uses:∀d∈st.1,∀u∈bB (bI d),∃e∈st.1,e.name=u.name/\(bI e).kind=u.kind/\(u.kind=1->u.field∈bG (bI e))/\(u.bk=14->∀v∈bB (bI e),v.bk≠14)
theorem JX:Br eY:=by unfold Br;decide
theorem JY:bB (bI eY)=[]:=by decide
theorem Bt:(bI eY).kind=0:=by decide
theorem Bu:eY.name.getLast?=some 100:=by decide
theorem QG{a b:Nat}(ha:a<3)(hb:b<3)(h:UInt8.ofNat (48+a)=UInt8.ofNat (48+b)):a=b:=by
 have:=congrArg UInt8.toNat h;rw[UInt8.toNat_ofNat',UInt8.toNat_ofNat']at this;omega
theorem Oe{a:Nat}(ha:a<3):(100:UInt8)≠UInt8.ofNat (48+a):=by
 intro h;have:=congrArg UInt8.toNat h;rw[UInt8.toNat_ofNat']at this;have h2:(100:UInt8).toNat=100:=rfl;omega
theorem XC.add{k:Nat}{st:List Df×Bool}{p:List Df}{sh:Bool}(hk:k<3)(h:XC k st)(hp:My (UInt8.ofNat (48+k)) sh p):
 XC (k+1) (if sh=true/\st.2=false then(st.1++p++[eY],true)else(st.1++p,st.2)):=by
 have hn:((st.1++p).map Df.name).Nodup:=by
  rw[List.map_append,List.nodup_append];refine⟨h.names,hp.names,?_⟩;intro a ha b hb e;subst e;obtain⟨d,hd,rfl⟩:=List.mem_map.1 ha;obtain⟨d2,hd2,e2⟩:=List.mem_map.1 hb;have l2:=hp.last d2 hd2;rw[e2]at l2;rcases h.last d hd with⟨rfl,_⟩|⟨j,hj,l1⟩
  ·rw[Bu]at l2;injection l2 with l2
   exact Oe hk l2
  ·rw[l1]at l2;injection l2 with l2
   have:=QG (by omega) hk l2;omega
 have hf:∀d∈st.1++p,Br d:=λd hd=>(List.mem_append.1 hd).elim (h.fine d) (hp.fine d);have hl:∀d∈st.1++p,(d=eY/\st.2=true)\/∃j<k+1,d.name.getLast?=some (UInt8.ofNat (48+j)):=λd hd=>by
  rcases List.mem_append.1 hd with hd|hd
  ·rcases h.last d hd with h1|⟨j,hj,h1⟩
   ·exact .inl h1
   ·exact .inr ⟨j,by omega,h1⟩
  ·exact .inr ⟨k,by omega,hp.last d hd⟩
 have hlen:(st.1++p).length<=6*(k+1)+st.2.toNat:=by
  have:=h.len;have:=hp.len;rw[List.length_append];omega
 split
 ·rename_i hc;refine⟨?_,?_,λd hd=>?_,λ_=>by simp,λd hd=>?_,λd hd u hu=>?_⟩
  ·simp only[List.length_append,List.length_cons,List.length_nil,Bool.toNat_true]at hlen|-;rw[hc.2]at hlen;simp at hlen;omega
  ·rw[List.map_append,List.nodup_append];refine⟨hn,by simp,?_⟩;intro a ha b hb e;simp at hb;subst hb;obtain⟨d,hd,e2⟩:=List.mem_map.1 ha;rcases hl d hd with⟨_,h2⟩|⟨j,hj,l1⟩
   ·rw[hc.2]at h2;cases h2
   ·rw[e2,e,Bu]at l1;injection l1 with l1
    exact Oe (by omega) l1
  ·rcases List.mem_append.1 hd with hd|hd
   ·rcases hl d hd with⟨h1,_⟩|h1
    ·exact .inl ⟨h1,rfl⟩
    ·exact .inr h1
   ·simp at hd;exact .inl ⟨hd,rfl⟩
  ·rcases List.mem_append.1 hd with hd|hd
   ·exact hf d hd
   ·simp at hd;subst hd;exact JX
  ·have hs:eY∈st.1++p++[eY]:=(by simp);rcases List.mem_append.1 hd with hd|hd
   ·rcases List.mem_append.1 hd with hd|hd
    ·obtain⟨e,he,r⟩:=h.uses d hd u hu;exact⟨e,List.mem_append_left _ (List.mem_append_left _ he),r⟩
    ·rcases hp.uses d hd u hu with⟨_,h1,h2,h3⟩|⟨e,he,r⟩
     ·exact⟨eY,hs,h1.symm,by rw[Bt,h2],(λhk=>by rw[h2]at hk;cases hk),λhk=>absurd hk h3⟩
     ·exact⟨e,List.mem_append_left _ (List.mem_append_right _ he),r⟩
   ·simp at hd;subst hd;rw[JY]at hu;cases hu
 ·rename_i hc;refine⟨hlen,hn,hl,λhb=>List.mem_append_left _ (h.shared hb),hf,λd hd u hu=>?_⟩;rcases List.mem_append.1 hd with hd|hd
  ·obtain⟨e,he,r⟩:=h.uses d hd u hu;exact⟨e,List.mem_append_left _ he,r⟩
  ·rcases hp.uses d hd u hu with⟨h0,h1,h2,h3⟩|⟨e,he,r⟩
   ·have hb:st.2=true:=by
     cases q:st.2 with
     |true=>rfl
     |false=>exact absurd ⟨h0,q⟩ hc
    exact⟨eY,List.mem_append_left _ (h.shared hb),h1.symm,by rw[Bt,h2],(λhk=>by rw[h2]at hk;cases hk),λhk=>absurd hk h3⟩
   ·exact⟨e,List.mem_append_right _ he,r⟩
theorem VY(l:List Int)(st:List Df×Bool)(i:Nat):Qw l st i=(if decide ((dH l (1+i) 4096).toNat%14=9)=true/\st.2=false then(st.1++fI ((dH l (1+i) 4096).toNat%14) i ((dH l (1+i) 4096).toNat / 14)++[eY],true)else(st.1++fI ((dH l (1+i) 4096).toNat%14) i ((dH l (1+i) 4096).toNat / 14),st.2)):=by
 unfold Qw;simp only[decide_eq_true_eq]
theorem Ay(l:List Int)(k:Nat):kD l (k+1)=Qw l (kD l k) k:=by
 unfold kD;rw[List.range_succ,List.foldl_append];rfl
theorem zK(l:List Int):∀k,k<=3->XC k (kD l k)
 |0,_=>⟨Nat.zero_le _,.nil,by simp[kD],by simp[kD],by simp[kD],by simp[kD]⟩
 |k+1,h=>by
  rw[Ay,VY];exact(zK l k (by omega)).add (by omega) (JW (Nat.mod_lt _ (by decide)) (by omega))
theorem Hs(l:List Int)(i m:Int)(hm:0<m):0<=dH l i m/\dH l i m<m:=by
 unfold dH;split
 ·exact⟨Int.le_refl _,hm⟩
 ·exact dD _ _ hm
theorem zL(l:List Int):sY l<=3:=by
 have:=Hs l 0 3 (by decide);unfold sY;omega
theorem JZ(l:List Int):DS (kD l (sY l)).1:=by
 have h:=zK l _ (zL l);have h3:=zL l;have hb:(kD l (sY l)).2.toNat<=1:=Bool.toNat_le _;refine⟨by have:=h.len;omega,h.names,h.fine,λd hd u hu=>?_,λd hd=>QF λd hd u hu hc e he hn v hv=>?_⟩
 ·obtain⟨e,he,a,b,c,_⟩:=h.uses d hd u hu;exact⟨e,he,a,b,c⟩
 ·obtain⟨e2,he2,a,_,_,f⟩:=h.uses d hd u hu;have:e2=e:=by
   obtain⟨i,hi,rfl⟩:=List.getElem_of_mem he;obtain⟨j,hj,rfl⟩:=List.getElem_of_mem he2;have:=uT h.names hj hi (by rw[a,hn]);subst this;rfl
  subst this;exact f hc v hv
theorem Ka(l:List Int):(kD l (sY l)).1.length<=19:=by
 have h:=zK l _ (zL l);have h3:=zL l;have hb:(kD l (sY l)).2.toNat<=1:=Bool.toNat_le _;have:=h.len;omega
theorem Ub{n:Nat}{b:Int}{i:Nat}(hi:i<n):oY n b i<n:=by
 unfold oY;have hm:(i+(bE b (n:Int)).toNat)%n<n:=Nat.mod_lt _ (by omega);simp only;split<;>omega
theorem Of{x n:Nat}(h:x<2*n):x%n=if x<n then x else x-n:=by
 split
 ·exact Nat.mod_eq_of_lt ‹_›
 ·rw[Nat.mod_eq_sub_mod (by omega),Nat.mod_eq_of_lt (by omega)]
theorem QH{n:Nat}{b:Int}{i j:Nat}(hi:i<n)(hj:j<n)(h:oY n b i=oY n b j):i=j:=by
 unfold oY at h;have kl:=dD b (n:Int) (by omega);obtain⟨k,hk⟩:∃k:Nat,(bE b (n:Int)).toNat=k:=⟨_,rfl⟩;have hkn:k<n:=by omega
 rw[hk]at h;have e1:=Of (x:=i+k) (n:=n) (by omega);have e2:=Of (x:=j+k) (n:=n) (by omega);simp only at h;rw[e1,e2]at h;split at h<;>split at h<;>split at h<;>omega
theorem Bv{α:Type}[DecidableEq α]:∀{a b:List α},a.Nodup->a⊆b->b.length<=a.length->a.Perm b
 |[],b,_,_,hl=>by
  have:b=[]:=List.eq_nil_of_length_eq_zero (by simpa using hl);rw[this]
 |x::r,b,hn,hs,hl=>by
  have hx:x∈b:=hs (List.mem_cons_self ..);have hp:=List.perm_cons_erase hx;refine(List.Perm.cons x (Bv (List.nodup_cons.1 hn).2 (λy hy=>?_) ?_)).trans hp.symm
  ·have hy2:=hs (List.mem_cons_of_mem _ hy);have hne:y≠x:=λe=>(List.nodup_cons.1 hn).1 (e▸hy);exact(List.mem_erase_of_ne hne).2 hy2
  ·have:=hp.length_eq;simp only[List.length_cons]at this hl;omega
theorem Uc:∀{n:Nat} {f:Nat->Nat},(∀i<n,f i<n)->(∀i<n,∀j<n,f i=f j->i=j)->((List.range n).map f).Perm (List.range n):=by
 intro n f h1 h2;have hnd:((List.range n).map f).Nodup:=by
  refine List.pairwise_iff_getElem.2 λi j hi hj hij=>?_;simp at hi hj|-;intro e;have:=h2 i hi j hj e;omega
 have hsub:(List.range n).map f⊆List.range n:=λx hx=>by
  obtain⟨i,hi,rfl⟩:=List.mem_map.1 hx;exact List.mem_range.2 (h1 i (List.mem_range.1 hi))
 exact Bv hnd hsub (by simp)
theorem Az(l:List Df)(b:Int):(mV l b).Perm l:=by
 have h:=Uc (n:=l.length) (f:=oY l.length b) (λi hi=>Ub hi) λi hi j hj e=>QH hi hj e;have h2:=h.map λi=>l.getD i default;have e1:mV l b=((List.range l.length).map (oY l.length b)).map λi=>l.getD i default:=by unfold mV;rw[List.map_map];rfl
 have e2:(List.range l.length).map (λi=>l.getD i default)=l:=by
  refine List.ext_getElem (by simp) λi h1 h2=>?_;simp[List.getD_eq_getElem?_getD,h2]
 rw[e1];rw[e2]at h2;exact h2
theorem MJ(l:List Int):DS (zG l):=(JZ l).perm (Az _ _).symm
theorem VZ(l:List Int):(zG l).length<=19:=by
 have:=(Az (kD l (sY l)).1 (dH l 4 64)).length_eq;have:=Ka l;unfold zG;omega
theorem We(l:List Int):chkR (zG l)=(((zG l).length:Int),0):=XA (Mx.2 (MJ l))
section
attribute[local simp] jO.cond Nd.d_eq nd_t nd_dr nd_td ndsD aQ
theorem Ud(T:List Tk)(l:List Int):spacedTo T l 0=[]:=rfl
attribute[local simp] Ud
def XJ(out w:aM)(k:Int)(i:Nat):Bool:=
 decide (k<3)||(match out.getLast? with
  |none=>false
  |some c=>(firstIs letterB w||firstIs digitB w)&&decide (c≠32)&&decide (c≠10)&& !signB c)||(decide (0<i)&&(decide (w=[61])||decide (w=[61,61])))
theorem uV(T:List Tk)(l:List Int)(i:Nat):spacedTo T l (i+1)=(if XJ (spacedTo T l i) (T.getD i default).text (dH l i 6) i=true then spacedTo T l i++sepsL.getD ((dH l i 6).tmod 3).toNat []else spacedTo T l i)++(T.getD i default).text:=rfl
theorem Ue{m:Int}(h0:0<=m)(h1:m<3):([DV.str [32],DV.str [10],DV.str [32,32,10,32]]:List DV)[m.toNat]?.getD default=.str (sepsL.getD m.toNat []):=by
 have:m=0\/m=1\/m=2:=by omega
 rcases this with rfl|rfl|rfl<;>rfl
theorem Og{out w:aM}{k:Int}{i:Nat}{d:UInt8}(hd:out[out.length-1]?.getD 0=d):XJ out w k i=true↔((k<3\/(((0<out.length/\(firstIs letterB w=true\/firstIs digitB w=true))/\¬(d.toNat:Int)=32)/\¬(d.toNat:Int)=10)/\¬d∈signs)\/0<i/\(w=[61]\/w=[61,61])):=by
 unfold XJ;rw[List.getLast?_eq_getElem?];cases e:out[out.length-1]? with
 |none=>
  have h0:¬0<out.length:=λq=>by rw[List.getElem?_eq_getElem (by omega)]at e;cases e
  simp[h0]
 |some c=>
  rw[e]at hd;have hd:c=d:=hd;subst hd;have h0:0<out.length:=by
   have:=(List.getElem?_eq_some_iff.1 e).1;omega
  have e1:(c.toNat:Int)=32↔c=32:=by rw[<-UInt8.toNat_inj];have:(32:UInt8).toNat=32:=rfl;omega
  have e2:(c.toNat:Int)=10↔c=10:=by rw[<-UInt8.toNat_inj];have:(10:UInt8).toNat=10:=rfl;omega
  simp[h0,e1,e2,signB]
theorem sO(T:List Tk)(l:List Int)(b:Nat)(hb:∀t∈T,t.text.length<=b):∀i,(spacedTo T l i).length<=i*(b+4)
 |0=>by simp[spacedTo]
 |i+1=>by
  have ih:=sO T l b hb i;have hs:∀k:Nat,(sepsL.getD k []).length<=4:=λk=>by
   rw[List.getD_eq_getElem?_getD];cases e:sepsL[k]? with
   |none=>simp
   |some w=>exact(by decide:∀w∈sepsL,w.length<=4) w (List.mem_of_getElem? e)
  have hw:(T.getD i default).text.length<=b:=by
   rw[List.getD_eq_getElem?_getD];cases e:T[i]? with
   |none=>exact Nat.zero_le _
   |some w=>exact hb w (List.mem_of_getElem? e)
  have h4:=hs ((dH l i 6).tmod 3).toNat;rw[Nat.succ_mul,uV,List.length_append];cases XJ (spacedTo T l i) (T.getD i default).text (dH l i 6) i
  ·simp only[Bool.false_eq_true,if_false];omega
  ·rw[if_pos rfl,List.length_append];omega
theorem MK(s:aM)(l:List Int)(hs:s.length<=100000000)(hl:∀n∈l, -9223372036854775808<=n/\n<=9223372036854775807):Ok Tryz.prog 58 [.str s,.sl (l.map aG)] ⟨.d (.str (spacedS s l)),true⟩:=by
 refine aZ Tryz.func58 rfl Tryz.ntmps58 Tryz.results58 λw0 X hp=>?_;obtain⟨T,hT1⟩:∃T,(scanS s).1=T:=⟨_,rfl⟩;have hin:∀t∈T,Yd s t:=λt ht=>Dc (hT1▸ht);have htl:T.length<=s.length:=by rw[<-hT1];exact kS _ _ _
 have hgT:bH T:=by rw[<-hT1];exact gI _ _ _
 have hwl:∀t∈T,t.text.length<=17:=λt ht=>GO (hgT t ht);refine aA ?_;simp;refine aD ?_;have hsc:=Dd s (by omega);rw[hT1]at hsc;refine eF.ro hT hW (λ|14=>some<| .plain ⟨.tup [.d (.sl (T.map Tk.r)),.d (aG (scanS s).2)],true⟩|_=>none) ?_;simp[aW];refine⟨hsc,?_⟩;refine aA ?_;simp;refine aD ?_;refine aA ?_;simp;refine aH ?_;refine aR (ι:=Nat) (λi=>aO [(0,.d (.str s)),(1,.d (.sl (l.map aG))),(5,.d (.sl (T.map Tk.r))),(7,.d (.str (spacedTo T l i))),(8,.d (aG i))]) (λi=>aI []) (λi=>i<=T.length) (λi=>T.length-i) 0 (aB hp [0,1,5,7,8] []) ((Nat.zero_le _)) λi hi4=>?_;refine aD ?_;refine aA ?_;simp;refine aC ?_;simp;refine⟨λh4=>?_,λh4=>?_⟩
 ·refine aE ?_;simp;refine aD ?_;refine aH ?_;refine aD ?_;have hi:i<T.length:=by omega
  obtain⟨t,htt⟩:∃t,T[i]=t:=⟨_,rfl⟩;have hti:T[i]? =some t:=by rw[List.getElem?_eq_getElem hi,htt]
  have htm:t∈T:=List.mem_of_getElem? hti;obtain⟨a,ha,hal,hat⟩:=hin t htm;refine eF.rd [] [] (λ_=>none) ?_;simp[hti,Tk.r,ha,GM,hat];refine⟨⟨hi,by omega,by omega⟩,?_⟩;refine aD ?_;have h7:=Ix l i 6 hl (by decide);refine eF.ro hT hW (λ|37=>some<| .plain ⟨.d (aG (dH l i 6)),true⟩|_=>none) ?_;simp;refine⟨h7,?_⟩;refine aD ?_;obtain⟨out,hout⟩:∃out,spacedTo T l i=out:=⟨_,rfl⟩;have hol:=sO T l 17 hwl i;rw[hout]at hol;have hol2:i*(17+4)<=100000000*(17+4):=Nat.mul_le_mul_right _ (by omega);obtain⟨d,hd⟩:∃d,out[out.length-1]?.getD 0=d:=⟨_,rfl⟩;have h81:=oT t.text 0 (by omega);have h82:=nX t.text 0 (by omega);have h83:=IS d;have hpos:0<out.length↔out≠[]:=List.length_pos_iff;refine eF.ro hT hW (λ|43=>some<| .plain ⟨.d (.bool (firstIs letterB t.text)),true⟩|46=>some<| .plain ⟨.d (.bool (firstIs digitB t.text)),true⟩|71=>some<| .plain ⟨.d (.bool (decide (d∈signs))),true⟩|_=>none) ?_;simp[hout,hd];refine⟨by(repeat' with_reducible apply And.intro)<;>intros<;>first|(with_reducible exact h83)|omega|(simpa using h81)|(simpa using h82)|(constructor<;>first|omega|assumption),?_⟩;refine aD ?_;refine aA ?_;simp;refine⟨by(repeat' with_reducible apply And.intro)<;>intros<;>((repeat' with_reducible apply And.intro)<;>first|assumption|grind),?_⟩;refine aC ?_;simp;refine⟨λg=>?_,λg1 g2 g3=>?_⟩
  ·have hB:=(Og hd).2 g;have htg:T.getD i default=t:=by rw[List.getD_eq_getElem?_getD,hti];rfl
   have hstep:=uV T l i;rw[hout,htg,if_pos hB]at hstep;have hk:=bP l i 6 (by decide);have hm3:0<=(dH l i 6).tmod 3/\(dH l i 6).tmod 3<3:=by rw[Int.tmod_eq_emod_of_nonneg hk.1];omega
   have hsp:=Ue hm3.1 hm3.2;have hs4:(sepsL.getD ((dH l i 6).tmod 3).toNat []).length<=4:=by
    rw[List.getD_eq_getElem?_getD];cases e:sepsL[((dH l i 6).tmod 3).toNat]? with
    |none=>simp
    |some w=>exact(by decide:∀w∈sepsL,w.length<=4) w (List.mem_of_getElem? e)
   obtain⟨sep,hse⟩:∃sep,sepsL.getD ((dH l i 6).tmod 3).toNat []=sep:=⟨_,rfl⟩;rw[hse]at hsp hs4 hstep;refine aJ ?_;simp[hsp];refine⟨⟨⟨⟨by decide,hm3⟩,hm3.2⟩,by omega⟩,?_⟩;have hwt:=hwl t htm;refine aJ ?_;simp[List.length_append];refine⟨by omega,?_⟩;refine aJ ?_;simp;refine⟨by omega,?_⟩;refine Nf.mk (i+1) (aB hp [0,1,5,7,8] [] (by simp[hstep])) ?_ ?_
   ·omega
   ·omega
  ·have hB:XJ out t.text (dH l i 6) i=false:=by
    cases e:XJ out t.text (dH l i 6) i with
    |false=>rfl
    |true=>
     rcases(Og hd).1 e with(h|h)|h
     ·omega
     ·exact absurd (g2 h.1.1.1.1 h.1.1.1.2 h.1.1.2 h.1.2) h.2
     ·exact absurd h.2 (not_or.2 (g3 h.1))
   have htg:T.getD i default=t:=(by rw[List.getD_eq_getElem?_getD,hti];rfl);have hstep:=uV T l i;rw[hout,htg,if_neg (by simp[hB])]at hstep;refine aE ?_;simp;have hwt:=hwl t htm;refine aJ ?_;simp[List.length_append];refine⟨by omega,?_⟩;refine aJ ?_;simp;refine⟨by omega,?_⟩;refine Nf.mk (i+1) (aB hp [0,1,5,7,8] [] (by simp[hstep])) ?_ ?_
   ·omega
   ·omega
 ·refine bA ?_;simp;refine aA ?_;simp;refine aF ?_;simp;rw[show i=T.length by omega];unfold spacedS;rw[hT1]
theorem ML(s:aM)(l:List Int):(spacedS s l).length<=21*s.length:=by
 have hgT:bH (scanS s).1:=gI _ _ _;have h:=sO (scanS s).1 l 17 (λt ht=>GO (hgT t ht)) (scanS s).1.length;have h1:(scanS s).1.length<=s.length:=kS _ _ _;unfold spacedS;omega
end
section
attribute[local simp] jO.cond Nd.d_eq nd_t nd_dr nd_td ndsD aQ
theorem Wf{n:Int}(h0:0<=n)(h1:n<4):(chgEmpty.map DV.str)[n.toNat]?.getD default=.str (chgEmpty.getD n.toNat []):=by
 have hk:n.toNat<chgEmpty.length:=by show _<4;omega
 rw[List.getElem?_map,List.getElem?_eq_getElem hk];simp[List.getD_eq_getElem?_getD,hk]
theorem Wg{n:Int}(h0:0<=n)(h1:n<26):(chgWords.map DV.str)[n.toNat]?.getD default=.str (chgWords.getD n.toNat []):=by
 have hk:n.toNat<chgWords.length:=by show _<26;omega
 rw[List.getElem?_map,List.getElem?_eq_getElem hk];simp[List.getD_eq_getElem?_getD,hk]
theorem Kb(k:Nat):(chgWords.getD k []).length<=17:=by
 rw[List.getD_eq_getElem?_getD];cases e:chgWords[k]? with
 |none=>simp
 |some w=>exact(by decide:∀w∈chgWords,w.length<=17) w (List.mem_of_getElem? e)
theorem Kc(k:Nat):(chgEmpty.getD k []).length<=3:=by
 rw[List.getD_eq_getElem?_getD];cases e:chgEmpty[k]? with
 |none=>simp
 |some w=>exact(by decide:∀w∈chgEmpty,w.length<=3) w (List.mem_of_getElem? e)
theorem Wh(y:Int):IntKind.u8.wrap y=y.emod 256:=by
 unfold IntKind.wrap;simp[IntKind.bits,IntKind.signed];rfl
def MM(s w:aM)(a b c:Int)(p q:Nat):aM:=
 if c=0 then s.take p++s.drop q
 else if c=1 then s.take q++32::s.drop p
 else if c=2 then s.take p++32::(w++32::s.drop q)
 else if c=3 then s.take p
 else if c=4 then s.take p++w++32::s.drop p
 else s.set (bE a s.length).toNat (UInt8.ofNat (b.emod 256).toNat)
theorem Wi{s:aM}{a how b:Int}(h:(scanS s).1=[]):changedS s a how b=s++chgEmpty.getD (bE b 4).toNat []:=by
 unfold changedS;rw[h]
theorem Uf{s:aM}{T:List Tk}{a how b:Int}{t:Tk}{p q:Nat}(h:(scanS s).1=T)(h0:T≠[])(ht:T[(bE a T.length).toNat]? =some t)(hp:t.at_=p)(hq:tokE t=q):
 changedS s a how b=MM s (chgWords.getD (bE b 26).toNat []) a b (bE how 6) p q:=by
 unfold changedS;cases e:T with
 |nil=>exact absurd e h0
 |cons x r=>
  subst e;rw[h];have hd:(x::r).getD (bE a ((r.length+1:Nat):Int)).toNat default=t:=by
   rw[List.getD_eq_getElem?_getD];have ht:(x::r)[(bE a ((r.length+1:Nat):Int)).toNat]? =some t:=ht;rw[ht];rfl
  simp only[hd,hp,hq,Int.toNat_natCast];rfl
theorem Wj(s:aM)(a how b:Int):(changedS s a how b).length<=2*s.length+40:=by
 unfold changedS;split
 ·have:=Kc (bE b 4).toNat;rw[List.length_append];omega
 ·have hw:=Kb (bE b 26).toNat;simp only[];generalize chgWords.getD (bE b 26).toNat []=w at hw;split
  ·simp only[List.length_append,List.length_take,List.length_drop];omega
  ·split
   ·simp only[List.length_append,List.length_take,List.length_drop,List.length_cons];omega
   ·split
    ·simp only[List.length_append,List.length_take,List.length_drop,List.length_cons];omega
    ·split
     ·simp only[List.length_take];omega
     ·split
      ·simp only[List.length_append,List.length_take,List.length_drop,List.length_cons];omega
      ·rw[List.length_set];omega
theorem Kd(s:aM)(a how b:Int)(hs:s.length<=900000000)(ha: -9223372036854775808<=a/\a<=9223372036854775807)(hh: -9223372036854775808<=how/\how<=9223372036854775807)(hb: -9223372036854775808<=b/\b<=9223372036854775807):Ok Tryz.prog 56 [.str s,aG a,aG how,aG b] ⟨.d (.str (changedS s a how b)),true⟩:=by
 refine aZ Tryz.func56 rfl Tryz.ntmps56 Tryz.results56 λw0 X hp=>?_;obtain⟨T,hT1⟩:∃T,(scanS s).1=T:=⟨_,rfl⟩;have hin:∀t∈T,Yd s t:=λt ht=>Dc (hT1▸ht);have htl:T.length<=s.length:=by rw[<-hT1];exact kS _ _ _
 have a4:=dD b 4 (by decide);have a26:=dD b 26 (by decide);have a6:=dD how 6 (by decide);have r4:=dV b 4 hb.1 hb.2 (by decide);have r26:=dV b 26 hb.1 hb.2 (by decide);have r6:=dV how 6 hh.1 hh.2 (by decide);refine aA ?_;simp;refine aD ?_;have hsc:=Dd s (by omega);rw[hT1]at hsc;refine eF.ro hT hW (λ|16=>some<| .plain ⟨.tup [.d (.sl (T.map Tk.r)),.d (aG (scanS s).2)],true⟩|_=>none) ?_;simp[aW];refine⟨hsc,?_⟩;refine aD ?_;refine aA ?_;simp;refine aC ?_;simp;refine⟨λh2=>?_,λh2=>?_⟩
 ·have hnil:(scanS s).1=[]:=by rw[hT1];first|exact h2|exact List.eq_nil_of_length_eq_zero (by omega)
  refine aD ?_;have hc:=Wf a4.1 a4.2;have hcl:=Kc (bE b 4).toNat;obtain⟨z,hz⟩:∃z,chgEmpty.getD (bE b 4).toNat []=z:=⟨_,rfl⟩;rw[hz]at hc hcl;simp[chgEmpty]at hc;refine eF.ro hT hW (λ|25=>some<| .plain ⟨.d (aG (bE b 4)),true⟩|_=>none) ?_;simp[hc];refine⟨⟨⟨⟨⟨by decide,r4⟩,by omega⟩,by omega⟩,by omega⟩,?_⟩;refine aF ?_;simp;rw[Wi hnil,hz]
 ·have hne:T≠[]:=λe=>by rw[e]at h2;simp at h2
  have hpos:0<T.length:=List.length_pos_iff.2 hne;have aT:=dD a (T.length:Int) (by omega);have rT:=dV a (T.length:Int) ha.1 ha.2 (by omega);obtain⟨j,hj⟩:∃j:Nat,bE a (T.length:Int)=(j:Int):=⟨(bE a (T.length:Int)).toNat,by omega⟩;have hjl:j<T.length:=by omega
  obtain⟨t,htt⟩:∃t,T[j]=t:=⟨_,rfl⟩;have hti:T[j]? =some t:=by rw[List.getElem?_eq_getElem hjl,htt]
  obtain⟨p,hpa,hpl,hpt⟩:=hin t (List.mem_of_getElem? hti);obtain⟨q,hq⟩:∃q:Nat,q=p+t.text.length:=⟨_,rfl⟩;have hqe:tokE t=q:=by unfold tokE;rw[hpa,hq];simp
  have hqi:(p:Int)+(t.text.length:Int)=(q:Int):=by rw[hq];simp
  have hpl1:p<=s.length:=by omega
  have hql1:q<=s.length:=by omega
  have ech:=Uf (a:=a) (how:=how) (b:=b) hT1 hne (by rw[hj,Int.toNat_natCast];exact hti) hpa hqe;refine aE ?_;simp;refine aX hT hW (λ|33=>some<| .plain ⟨.d (aG (j:Int)),true⟩|_=>none) ?_;simp[hti,Tk.r,hpa,hqi];refine⟨⟨by simpa [hj]using rT,hjl⟩,?_⟩;refine aD ?_;have hc:=Wg a26.1 a26.2;have hcl:=Kb (bE b 26).toNat;obtain⟨z,hz⟩:∃z,chgWords.getD (bE b 26).toNat []=z:=⟨_,rfl⟩;rw[hz]at hc hcl ech;simp[chgWords]at hc;refine eF.ro hT hW (λ|38=>some<| .plain ⟨.d (aG (bE b 26)),true⟩|_=>none) ?_;simp[hc];refine⟨⟨⟨⟨by decide,r26⟩,a26⟩,a26.2⟩,?_⟩;refine aD ?_;refine aX hT hW (λ|42=>some<| .plain ⟨.d (aG (bE how 6)),true⟩|_=>none) ?_;simp;refine⟨r6,?_⟩;refine aH ?_;refine aA ?_;simp;refine aC ?_;simp;refine⟨λh7=>?_,λh7=>?_⟩
  ·refine aD ?_;refine eL (fG [0,12,11] [(11,11)] (by decide) (by decide) (by simp[hp])) ?_;simp;refine eF.rd [] [] (λ_=>none) ?_;simp;refine⟨by(repeat' with_reducible apply And.intro)<;>first|omega|decide,?_⟩;refine aF ?_;simp;rw[ech];unfold MM;rw[if_pos h7]
  ·refine aA ?_;simp;refine aC ?_;simp;refine⟨λh9=>?_,λh9=>?_⟩
   ·refine aD ?_;refine eL (fG [0,12,11] [(11,11)] (by decide) (by decide) (by simp[hp])) ?_;simp;refine eF.rd [] [] (λ_=>none) ?_;simp;refine⟨by(repeat' with_reducible apply And.intro)<;>first|omega|decide,?_⟩;refine aF ?_;simp;rw[ech];unfold MM;rw[if_neg h7,if_pos h9]
   ·refine aA ?_;simp;refine aC ?_;simp;refine⟨λh11=>?_,λh11=>?_⟩
    ·refine aD ?_;refine eL (fG [0,12,11] [(11,11)] (by decide) (by decide) (by simp[hp])) ?_;simp;refine eF.rd [] [] (λ_=>none) ?_;simp;refine⟨by(repeat' with_reducible apply And.intro)<;>first|omega|decide,?_⟩;refine aF ?_;simp;rw[ech];unfold MM;rw[if_neg h7,if_neg h9,if_pos h11]
    ·refine aA ?_;simp;refine aC ?_;simp;refine⟨λh13=>?_,λh13=>?_⟩
     ·refine aA ?_;simp;refine⟨by(repeat' with_reducible apply And.intro)<;>first|omega|decide,?_⟩;refine aF ?_;simp;rw[ech];unfold MM;rw[if_neg h7,if_neg h9,if_neg h11,if_pos h13]
     ·refine aA ?_;simp;refine aC ?_;simp;refine⟨λh15=>?_,λh15=>?_⟩
      ·refine aD ?_;refine eL (fG [0,12,11] [(11,11)] (by decide) (by decide) (by simp[hp])) ?_;simp;refine eF.rd [] [] (λ_=>none) ?_;simp;refine⟨by(repeat' with_reducible apply And.intro)<;>first|omega|decide,?_⟩;refine aF ?_;simp;rw[ech];unfold MM;rw[if_neg h7,if_neg h9,if_neg h11,if_neg h13,if_pos h15];simp
      ·refine aE ?_;simp;have aS:=dD a (s.length:Int) (by omega);have rS:=dV a (s.length:Int) ha.1 ha.2 (by omega);obtain⟨m,hm⟩:∃m:Nat,bE a (s.length:Int)=(m:Int):=⟨(bE a (s.length:Int)).toNat,by omega⟩;rw[hm]at rS;refine Iq hT (by kernel_rfl) (by kernel_rfl) (by kernel_rfl) (by kernel_rfl) (λw=>cG (w:=w) hT (t:=5) rfl) rfl rfl rfl rfl rfl rfl rfl rfl rfl rfl rfl rfl rfl rfl rfl rfl rfl rfl rfl rfl rfl rfl rfl rfl rfl rfl rfl rfl rfl rfl rfl rfl rfl rfl rfl rfl rfl rfl rfl rfl rfl rfl rfl rfl rfl (s:=s) (x:=a) (y:=b) (k:=m) (by simp) (by simp) (by simp) (by omega) rS ?_;refine aF ?_;simp;rw[ech];unfold MM;rw[if_neg h7,if_neg h9,if_neg h11,if_neg h13,if_neg h15,hm,Wh];rfl
end
theorem uW{α:Type}{p:α->Prop}{l:List α}{d:α}(h:∀x∈l,p x){k:Nat}(hk:k<l.length):p (l.getD k d):=by
 rw[List.getD_eq_getElem?_getD,List.getElem?_eq_getElem hk];exact h _ (List.getElem_mem hk)
theorem mE(L:List Int)(i:Nat):wholeB (callM L i) true=true:=by
 have h:=bP L i 8 (by decide);exact uW (p:=λw=>wholeB w true=true) (by decide:∀w∈callL,wholeB w true=true) (show(dH L i 8).toNat<8 by omega)
theorem FS(L:List Int)(i:Nat):wholeB (ownM L i) false=true:=by
 have h:=bP L i 4 (by decide);exact uW (p:=λw=>wholeB w false=true) (by decide:∀w∈ownL,wholeB w false=true) (show(dH L i 4).toNat<4 by omega)
theorem uX{k:Int}{t:aM}{n:Int}{ks:List Nd}(h:0<=k/\k<=6):0<=(Nd.mk k t n ks).kind/\(Nd.mk k t n ks).kind<=6:=h
theorem eX{k:Int}{t:aM}{n:Int}(h0:0<=k/\k<37)(h1:shapedK k []=true)(h2:loAt k<=n/\n<=hiAt k)(h3:textB k t=true):rightN (.mk k t n [])=true:=
 right_mk.2 ⟨h0.1,h0.2,h1,h2.1,h2.2,h3,λx hx=>by cases hx⟩
theorem uY(L:List Int)(i:Nat):rightN (.mk 33 (ownM L i) 0 [])=true:=eX (by decide) rfl (by decide) (FS L i)
theorem mW(L:List Int)(i:Nat):rightN (placeM L i).1=true/\isPlaceK (placeM L i).1.kind=true:=by
 unfold placeM;split
 ·exact⟨eX (by decide) rfl (by decide) (mE L (i+1)),rfl⟩
 ·exact⟨eX (by decide) rfl (by decide) (Iv (mE L (i+1)) (mE L (i+2))),rfl⟩
theorem Bw(L:List Int):∀(d i:Nat),rightN (valueM L d i).1=true/\isExprK (valueM L d i).1.kind=true:=λd=>by
 induction d with
 |zero=>
  intro i;obtain⟨r0,_,r2⟩:=fL L 0 i;have r2:=r2 rfl;by_cases h0:cR L 0 i=0\/cR L 0 i=1
  ·rw[iZ h0];have hr:=bP L (i+1) 6 (by decide);exact⟨eX (by decide) rfl (uW (p:=λn:Int=>loAt 32<=n/\n<=hiAt 32) (by decide:∀n∈numsM,loAt 32<=n/\n<=hiAt 32) (show(dH L (i+1) 6).toNat<6 by omega)) rfl,rfl⟩
  ·by_cases h1:cR L 0 i=2
   ·rw[jA h1];exact⟨uY L (i+1),rfl⟩
   ·by_cases h2:cR L 0 i=3\/cR L 0 i=4
    ·rw[fH h2];exact⟨(mW L (i+1)).1,oM (mW L (i+1)).2⟩
    ·rw[gL (by omega)];exact⟨eX (by decide) rfl (by decide) rfl,rfl⟩
 |succ e ih=>
  intro i;obtain⟨r0,r1,_⟩:=fL L (e+1) i;by_cases h0:cR L (e+1) i=0\/cR L (e+1) i=1
  ·rw[iZ h0];have hr:=bP L (i+1) 6 (by decide);exact⟨eX (by decide) rfl (uW (p:=λn:Int=>loAt 32<=n/\n<=hiAt 32) (by decide:∀n∈numsM,loAt 32<=n/\n<=hiAt 32) (show(dH L (i+1) 6).toNat<6 by omega)) rfl,rfl⟩
  ·by_cases h1:cR L (e+1) i=2
   ·rw[jA h1];exact⟨uY L (i+1),rfl⟩
   ·by_cases h3:cR L (e+1) i=3\/cR L (e+1) i=4
    ·rw[fH h3];exact⟨(mW L (i+1)).1,oM (mW L (i+1)).2⟩
    ·by_cases h4:cR L (e+1) i=5
     ·rw[gL h4];exact⟨eX (by decide) rfl (by decide) rfl,rfl⟩
     ·rw[rD (by omega)];exact zY (by omega) (by omega) (ih (i+1)) (ih (valueM L e (i+1)).2)
theorem jB{k:Int}{t:aM}{n:Int}{ks:List Nd}(hk:9<=k/\k<=25)(h1:textB k t=true)(h2:loAt k<=n/\n<=hiAt k)(h3:shapedK k ks=true)(h4:∀x∈ks,rightN x=true):
 rightN (.mk k t n ks)=true/\isStmtK (Nd.mk k t n ks).kind=true:=⟨right_mk.2 ⟨by omega,by omega,h3,h2.1,h2.2,h1,h4⟩,isStmtK_iff.2 hk⟩
theorem Ug{x:Nd}(h:rightN x=true):∀y∈[x],rightN y=true:=λy hy=>by rw[List.mem_singleton.1 hy];exact h
theorem DU{L:List Int}{d i:Nat}{bl:Nat->Nd×Nat}(hb:0<d->∀j,rightN (bl j).1=true/\isBlockK (bl j).1.kind=true):rightN (oneB L d bl i).1=true/\isStmtK (oneB L d bl i).1.kind=true:=by
 obtain⟨k,hk⟩:∃k,Mg L d i=k:=⟨_,rfl⟩;obtain⟨r0,r1,r2⟩:=sJ hk;rw[fO hk];have v1:=λj=>Bw L 1 j;have v2:=λj=>Bw L 2 j;have pl:=mW L (i+1);have cl:=mE L (i+1);have ol:=FS L (i+1);unfold uL;split
 ·rename_i q;subst q;exact jB (by decide) ol (by decide) (by simp[shapedK,kidsB,(v2 (i+1+1)).2]) (Ug (v2 (i+1+1)).1)
 split
 ·rename_i q;subst q;refine jB (by decide) rfl (by decide) (by simp[shapedK,kidsB,pl.2,(v2 (placeM L (i+1)).2).2]) λy hy=>?_;simp only[List.mem_cons,List.not_mem_nil,or_false]at hy;rcases hy with rfl|rfl
  ·exact pl.1
  ·exact(v2 _).1
 split
 ·rename_i q;have hb:=hb (r2 q);have a1:=v1 (i+1);have a2:=hb (valueM L 1 (i+1)).2;have a3:=hb ((bl (valueM L 1 (i+1)).2).2+1);have m2:∀y∈[(valueM L 1 (i+1)).1,(bl (valueM L 1 (i+1)).2).1],rightN y=true:=λy hy=>by
   simp only[List.mem_cons,List.not_mem_nil,or_false]at hy;rcases hy with rfl|rfl
   ·exact a1.1
   ·exact a2.1
  have m3:∀y∈[(valueM L 1 (i+1)).1,(bl (valueM L 1 (i+1)).2).1,(bl ((bl (valueM L 1 (i+1)).2).2+1)).1],rightN y=true:=λy hy=>by
   simp only[List.mem_cons,List.not_mem_nil,or_false]at hy;rcases hy with rfl|rfl|rfl
   ·exact a1.1
   ·exact a2.1
   ·exact a3.1
  split
  ·rename_i q2;subst q2;split
   ·exact jB (by decide) rfl (by decide) (by simp[shapedK,kidsB,a1.2,a2.2,a3.2]) m3
   ·exact jB (by decide) rfl (by decide) (by simp[shapedK,kidsB,a1.2,a2.2]) m2
  ·rename_i q2;have q3:k=12:=by omega
   subst q3;exact jB (by decide) rfl (by decide) (by simp[shapedK,kidsB,a1.2,a2.2]) m2
 split
 ·rename_i q;rcases q with rfl|rfl|rfl|rfl<;>exact jB (by decide) cl (by decide) rfl λx hx=>by cases hx
 split
 ·rename_i q;rcases q with rfl|rfl<;>exact jB (by decide) cl (by decide) (by simp[shapedK,kidsB,(v1 (i+1+1)).2]) (Ug (v1 (i+1+1)).1)
 split
 ·rename_i q;rcases q with rfl|rfl<;>exact jB (by decide) cl (by decide) rfl (Ug (uY L (i+1+1)))
 split
 ·rename_i q;subst q;have hr:=bP L (((i+1:Nat):Int)+1) 5 (by decide);have e1:loAt 19=2:=rfl;have e2:hiAt 19=6:=rfl;exact jB (by decide) ol (by omega) rfl λx hx=>by cases hx
 split
 ·rename_i q;subst q;exact jB (by decide) ol (by decide) rfl λx hx=>by cases hx
 split
 ·rename_i q;subst q;have hr:=bP L ((i+1:Nat):Int) 9 (by decide);have e1:loAt 21=1:=rfl;have e2:hiAt 21=9:=rfl;exact jB (by decide) rfl (by omega) rfl λx hx=>by cases hx
 split
 ·rename_i q;subst q;have hr:=bP L ((i+1:Nat):Int) 99 (by decide);have e1:loAt 25=1:=rfl;have e2:hiAt 25=99:=rfl;exact jB (by decide) rfl (by omega) rfl λx hx=>by cases hx
 ·have q:k=24:=by omega
  subst q;exact jB (by decide) rfl (by decide) (by simp[shapedK,kidsB,(v2 (i+1)).2]) (Ug (v2 (i+1)).1)
theorem Bx{L:List Int}{st:Nat->Nd×Nat}(h:∀j,rightN (st j).1=true/\isStmtK (st j).1.kind=true):∀(m:Nat) (ks:List Nd) (j:Nat),(∀x∈ks,rightN x=true/\isStmtK x.kind=true)->∀x∈(somesM L st m ks j).1,rightN x=true/\isStmtK x.kind=true
 |0,ks,j,hk=>by simpa [somesM]using hk
 |m+1,ks,j,hk=>by
  unfold somesM;split
  ·exact hk
  ·refine Bx h m _ _ λx hx=>?_;rcases List.mem_append.1 hx with hx|hx
   ·exact hk x hx
   ·rw[List.mem_singleton.1 hx];exact h j
theorem MN{L:List Int}{st:Nat->Nd×Nat}(h:∀j,rightN (st j).1=true/\isStmtK (st j).1.kind=true)(i:Nat):rightN (someM L st i).1=true/\isBlockK (someM L st i).1.kind=true:=
 ⟨uC (Bx h _ [] _ λx hx=>by cases hx),rfl⟩
theorem FT(L:List Int):∀d i,rightN (oneM L d i).1=true/\isStmtK (oneM L d i).1.kind=true
 |0,i=>by rw[oneM];exact DU λh=>absurd h (Nat.lt_irrefl 0)
 |d+1,i=>by rw[oneM];exact DU λ_ j=>MN (FT L d) j
theorem DW(L:List Int):∀(m:Nat) (ks:List Nd) (j:Nat),(∀x∈ks,rightN x=true/\isStmtK x.kind=true)->∀x∈bodyM L m ks j,rightN x=true/\isStmtK x.kind=true
 |0,ks,j,hk=>by simpa [bodyM]using hk
 |m+1,ks,j,hk=>by
  unfold bodyM;split
  ·exact hk
  ·refine DW L m _ _ λx hx=>?_;rcases List.mem_append.1 hx with hx|hx
   ·exact hk x hx
   ·rw[List.mem_singleton.1 hx];exact FT L 2 j
theorem uZ(L:List Int):∀c,∀x∈itemsM L c,rightN x=true/\isItemK x.kind=true
 |0,x,hx=>by cases hx
 |c+1,x,hx=>by
  rw[itemsM]at hx;rcases List.mem_append.1 hx with hx|hx
  ·exact uZ L c x hx
  ·rw[List.mem_singleton.1 hx];have hr:=bP L (4+2*c) 1999 (by decide);have e1:loAt 7= -999:=rfl;have e2:hiAt 7=999:=rfl;exact⟨eX (by decide) rfl (by omega) (mE L (3+2*c)),rfl⟩
theorem xO(l:List Int):rightN (treeS l)=true/\0<=(treeS l).kind/\(treeS l).kind<=6:=by
 unfold treeS;generalize l.take 48=L;have cl:=mE L 1;have hk:=bP L 0 10 (by decide);have hx:=uW (p:=λn:Int=>0<=n/\n<=6) (d:=0) (by decide:∀n∈treeKinds,0<=n/\n<=6) (show(dH L 0 10).toNat<10 by omega);unfold treeB;simp only[];generalize treeKinds.getD (dH L 0 10).toNat 0=k at hx;split
 ·rename_i q;subst q;have hr:=bP L 2 1999 (by decide);have e1:loAt 0= -999:=rfl;have e2:hiAt 0=999:=rfl;exact⟨eX (by decide) rfl (by omega) cl,uX (by decide)⟩
 split
 ·rename_i q;subst q;have hr:=bP L 2 4 (by decide);have e1:loAt 2=0:=rfl;have e2:hiAt 2=3:=rfl;exact⟨eX (by decide) rfl (by omega) cl,uX (by decide)⟩
 split
 ·rename_i q;subst q;exact⟨right_mk.2 ⟨by decide,by decide,List.all_eq_true.2 λx hx=>(uZ L _ x hx).2,by decide,by decide,cl,λx hx=>(uZ L _ x hx).1⟩,uX (by decide)⟩
 split
 ·rename_i q;have hb:rightN (.mk 8 [] 0 (bodyM L L.length [] 2))=true:=uC (DW L _ [] 2 λx hx=>by cases hx);rcases q with rfl|rfl<;>exact⟨right_mk.2 ⟨by decide,by decide,rfl,by decide,by decide,cl,Ug hb⟩,uX (by decide)⟩
 ·have q:k=3\/k=4:=by omega
  rcases q with rfl|rfl<;>exact⟨eX (by decide) rfl (by decide) cl,uX (by decide)⟩
theorem DX(l:List Int):Ls (treeS l):=vT (xO l).1 (xO l).2.1 (xO l).2.2
section
attribute[local simp] jO.cond Nd.d_eq nd_t nd_dr nd_td ndsD aQ
theorem QI{x:Nd}(h:Ls x):(textT x).length<=40*weighN x+40:=by
 obtain⟨_,h⟩:=h;have hw:=weighN_eq x;have wl:=qT x.kind;have il:=bV x.n;have it:=oP x.kids;unfold textT;simp only[];split
 ·rename_i q;split
  ·rename_i b hb;have hB:iI b:=by
    rcases h with⟨_,c,hx,hc⟩|⟨z,_⟩|⟨z,_⟩|⟨z,_⟩|⟨z,_⟩
    ·rw[hx]at hb;have hb:[c]=[b]:=hb;injection hb with hb _
     rw[<-hb];exact hc
    all_goals omega
   have hl:=(dW b).2 hB;rw[hb]at hw;simp only[weighL]at hw;simp only[List.length_append,List.length_cons];omega
  ·exact Nat.zero_le _
 ·split
  ·simp only[List.length_append,List.length_cons,List.length_nil];omega
  ·split
   ·simp only[List.length_append,List.length_cons,List.length_nil];omega
   ·split
    ·simp only[List.length_append,List.length_cons,List.length_nil];omega
    ·simp only[List.length_append,List.length_cons,List.length_nil];omega
theorem QJ(l:List Int):(textT (treeS l)).length<=40000040:=by
 have:=QI (DX l);have:=DA l;omega
end
section
attribute[local simp] jO.cond Nd.d_eq nd_t nd_dr nd_td ndsD aQ bD bL
def Ke(l:List Int):Df:=⟨(treeS l).text,textT (treeS l)⟩
theorem Kf(l:List Int)(hl:Jr l):Ok Tryz.prog 27 [.sl (l.map aG)] ⟨.d (Ke l).d,true⟩:=by
 refine Nu Tryz.func27 rfl Tryz.ntmps27 Tryz.results27 λw0 X hp=>?_;obtain⟨x,hx⟩:∃x,treeS l=x:=⟨_,rfl⟩;obtain⟨s,hs⟩:∃s,textT x=s:=⟨_,rfl⟩;have kx:=TC l hl;have ks:=IP x (by rw[<-hx];exact DX l) (by have:=DA l;rw[hx]at this;omega);rw[hx]at kx;rw[hs]at ks;simp at kx ks;refine aA ?_;simp;refine aX hT hW (λ|5=>some<| .plain ⟨.d x.d,false⟩|_=>none) ?_;simp;refine⟨kx,?_⟩;refine aD ?_;refine eF.rd [[9],[9]] [[],[],[],[9],[],[2]] (λ|9=>some<| .plain ⟨.d (.str s),true⟩|_=>none) ?_;simp;refine⟨ks,?_⟩;refine aF ?_;simp[Ke,hx,hs,Df.d]
theorem Uh(k i v:Nat)(hk:k<14)(hi:i<3):(fI k i v).length<=6:=(JW hk hi).len
theorem Kg(l:List Int)(hl:Jr l):Ok Tryz.prog 22 [.sl (l.map aG)] ⟨.own 2 ((zG l).map Df.d),true⟩:=by
 refine aZ Tryz.func22 rfl Tryz.ntmps22 Tryz.results22 λw0 X hp=>?_;have aN:=Hs l 0 3 (by decide);have kN:=Ix l 0 3 hl (by decide);have hN:(sY l:Int)=1+dH l 0 3:=by unfold sY;omega
 have hN3:=zL l;refine aA ?_;simp;refine aA ?_;simp;refine aA ?_;simp;refine aD ?_;refine aA ?_;simp;refine aH ?_;refine aR (ι:=Nat) (λi=>aO [(0,.d (.sl (l.map aG))),(3,.ow 3 0 (kD l i).1.length),(4,.d (.bool (kD l i).2)),(5,.d (aG (i:Nat)))]) (λi=>aI [(3,.row false 2 ((kD l i).1.map Df.d))]) (λi=>i<=sY l) (λi=>sY l-i) 0 (aB hp [0,3,4,5] [(3,3)] (by simp[kD]) (by simp[kD])) (Nat.zero_le _) λi hi4=>?_;refine aD ?_;refine aX hT hW (λ|9=>some<| .plain ⟨.d (aG (dH l 0 3)),true⟩|_=>none) ?_;simp;refine⟨⟨by simpa using kN,by omega⟩,?_⟩;refine aC ?_;simp;refine⟨λh4=>?_,λh4=>?_⟩
 ·have hi:i<sY l:=by omega
  have an:=Hs l (1+i) 4096 (by decide);have kn:=Ix l (1+i) 4096 hl (by decide);obtain⟨n,hn⟩:∃n:Nat,dH l (1+i) 4096=(n:Int):=⟨(dH l (1+i) 4096).toNat,by omega⟩;rw[hn]at kn an;have hmod:(n:Int).tmod 14=((n%14:Nat):Int):=rfl;have hdiv:(n:Int).tdiv 14=((n / 14:Nat):Int):=rfl;obtain⟨k,hk⟩:∃k:Nat,n%14=k:=⟨_,rfl⟩;obtain⟨v,hv⟩:∃v:Nat,n / 14=v:=⟨_,rfl⟩;have hk14:k<14:=by omega
  rw[hk]at hmod;rw[hv]at hdiv;obtain⟨st,hst⟩:∃st,kD l i=st:=⟨_,rfl⟩;obtain⟨P,hP⟩:∃P,fI k i v=P:=⟨_,rfl⟩;have kp:=JI k i v hk14 (by omega) (by omega);rw[hP]at kp;have lP:P.length<=6:=by rw[<-hP];exact Uh k i v hk14 (by omega)
  have lS:st.1.length<=19:=by
   have h:=(zK l i (by omega)).len;have hb:(kD l i).2.toNat<=1:=Bool.toNat_le _;rw[hst]at h hb;omega
  have hnx:kD l (i+1)=if k=9/\st.2=false then(st.1++P++[eY],true)else(st.1++P,st.2):=by
   rw[Ay,hst];unfold Qw;simp only[hn,Int.toNat_natCast,hk,hv,hP]
  rw[hst];refine aE ?_;simp;refine aP (ι:=Unit) (λu=>aO [(0,.d (.sl (l.map aG))),(3,.ow 3 0 (kD l (i+1)).1.length),(4,.d (.bool (kD l (i+1)).2)),(5,.d (aG (i:Nat)))]) (λu=>aI [(3,.row false 2 ((kD l (i+1)).1.map Df.d))]) (λu=>True) ?_ λu hc5=>?_
  ·refine aH ?_;refine aX hT hW (λ|17=>some<| .plain ⟨.d (aG (n:Int)),true⟩|_=>none) ?_;simp;refine⟨⟨by omega,by simpa using kn⟩,?_⟩;refine aX hT hW (λ|24=>some<| .plain ⟨.own 2 (P.map Df.d),true⟩|_=>none) ?_;simp[hmod,hdiv];refine⟨⟨⟨by omega,by simpa using kp⟩,by omega⟩,?_⟩;refine aA ?_;simp[hmod];refine aC ?_;simp;refine⟨λh8 h8b=>?_,λh8=>?_⟩
   ·rw[if_pos ⟨by omega,h8b⟩]at hnx;refine aA ?_;simp;refine⟨by omega,?_⟩;refine aJ ?_;simp;exact(aB hp [0,3,4,5] [(36,3)] (by simp[hnx,Nat.add_assoc]) (by simp[hnx,eY,Df.d,List.take_of_length_le (show(List.map Df.d st.1++List.map Df.d P).length<=st.1.length+P.length by simp)]))
   ·rw[if_neg (λh=>by have:=h8 (by omega);rw[h.2]at this;cases this)]at hnx;refine aE ?_;simp;exact(aB hp [0,3,4,5] [(25,3)] (by simp[hnx]) (by simp[hnx]))
  ·refine aJ ?_;simp;refine⟨by omega,?_⟩;refine Nf.mk (i+1) (aB hp [0,3,4,5] [(3,3)]) ?_ ?_
   ·omega
   ·omega
 ·refine bA ?_;simp;refine aD ?_;have e:i=sY l:=by omega
  subst e;have aT:=Hs l 4 64 (by decide);have kA:=Ix l 4 64 hl (by decide);have lO:=Ka l;have kT:=Mr (kD l (sY l)).1 (dH l 4 64) (by omega) (by omega) (by omega);obtain⟨T,hT1⟩:∃T,mV (kD l (sY l)).1 (dH l 4 64)=T:=⟨_,rfl⟩;rw[hT1]at kT;obtain⟨O1,hO1⟩:∃O1,(kD l (sY l)).1=O1:=⟨_,rfl⟩;rw[hO1]at kT;have tO:List.take O1.length (List.map Df.d O1)=List.map Df.d O1:=List.take_of_length_le (by rw[List.length_map];exact Nat.le_refl _);refine eF.ro hT hW (λ|39=>some<| .plain ⟨.d (aG (dH l 4 64)),true⟩|40=>some<| .plain ⟨.own 2 (T.map Df.d),true⟩|_=>none) ?_;simp[hO1,tO];refine⟨⟨by simpa using kA,by simpa using kT⟩,?_⟩;refine aF ?_;simp[zG,hT1]
end
end Go.Eng
