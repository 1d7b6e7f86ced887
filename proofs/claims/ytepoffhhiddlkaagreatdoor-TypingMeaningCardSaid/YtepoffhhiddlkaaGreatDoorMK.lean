/- Part 11 of the proof. No condition. -/
import Derived.Test.YtepoffhhiddlkaaGreatDoorMJ
import Derived.Test.YtepoffhhiddlkaaGreatDoorRows
import Derived.ChangeSame
import Derived.Lib.LaidTab
open Go.Proofs
open Go.Proofs.Tryz
set_option linter.unusedVariables false
set_option linter.unusedSimpArgs false
set_option maxRecDepth 20000
set_option maxHeartbeats 4000000
open List renaming getD_eq_getElem?_getD→A0,length_append→A1,getElem?_eq_getElem→A2,length_cons→A3,range→A4,take_of_length_le→A6,mem_append→A7,mem_map→A8,length_nil→A9,all_eq_true→B0,mem_cons→B1,getElem?_map→B2,mem_range→B3,mem_append_left→B4,eq_nil_of_length_eq_zero→B5,length_map→B6,length_take→B7,mem_singleton→B8,map→B9,mem_of_getElem?→C0,take_succ_eq_append_getElem→C2,eraseIdx_eq_take_drop_succ→C3,getElem_mem→C4,length_drop→C6,take→C7,mem_cons_self→C8,length_set→C9,mem_cons_of_mem→D0,not_mem_nil→D1,pairwise_iff_getElem→D2,map_append→D3,getElem_map→D4,map_cons→D5,length_pos_iff→D8,mem_of_find?_eq_some→E1,getElem?_zip_eq_some→E2,nodup_append→E3,filter_cons_of_pos→E4,filter_cons_of_neg→E5,take_length→E6,length_eraseIdx_le→E7,map_map→E8,foldl_cons→E9,mem_filter→F0,mem_append_right→F1,take_take→F2,getElem_of_mem→F3,mergeSort_perm→F4,map_take→F5,find?_eq_none→F6,append_assoc→F8,flatten_cons→F9,find?_cons→G1,range_succ→G2,nodup_cons→G3,replicate→G5,drop_zero→G6,drop_drop→G7,drop→H1,not_lt→H5
open Nat renaming zero_le→D6,le_refl→D7,le_trans→F7,mod_eq_of_lt→G0,mod_lt→G4,lt_irrefl→H0,succ_mul→H2
open Int renaming toNat_natCast→C1
open Array renaming getElem?_eq_some_iff→E0
open Bool renaming and_eq_true→C5,toNat_le→G9
open Classical renaming byContradiction→G8
open UInt8 renaming ofNat→A5,toNat_ofNat'→D9,toNat→H4
open Prod renaming fst→H3
namespace Go.Eng
section
theorem Bd{p q:Nat->Bool}{n:Nat}(h:∀i<n,p i=q i):eP p n=eP q n:=by
 unfold eP;have:∀l:List Nat,(∀i∈l,p i=q i)->l.find? p=l.find? q:=λl=>by
  induction l with
  |nil=>intro _;rfl
  |cons a r ih=>
   intro c;rw[G1,G1,c a (C8 ..),ih λi b=>c i (D0 _ b)]
 exact this _ λi b=>h i (B3.1 b)
theorem Be{l:List Df}(h:(l.map treeD).map Nd.text=l.map Df.name){c:aV}{k:Nat}(a:atN (l.map treeD) c=some k):∃b:k<l.length,l[k].name=c:=by
 rw[atN_find h]at a;obtain⟨b,d,_⟩:=List.findIdx?_eq_some_iff_getElem.1 a;exact⟨b,by simpa using d⟩
theorem KR{l:List Df}(c:(l.map Df.name).Nodup){i j:Nat}(a:i<l.length)(b:j<l.length)(e:l[i].name=l[j].name):i=j:=by
 have:=D2.1 c;rcases Nat.lt_trichotomy i j with h|h|h
 .exact absurd (by rw[D4,D4];exact e) (this i j (by simpa using a) (by simpa using b) h)
 .exact h
 .exact absurd (by rw[D4,D4];exact e.symm) (this j i (by simpa using b) (by simpa using a) h)
theorem Ir{l:List Df}(h:(l.map treeD).map Nd.text=l.map Df.name)(c:(l.map Df.name).Nodup){i:Nat}(a:i<l.length):atN (l.map treeD) l[i].name=some i:=by
 cases q:atN (l.map treeD) l[i].name with
 |none=>
  rw[atN_find h,List.findIdx?_eq_none_iff]at q;have:=q l[i] (C4 a);simp at this
 |some j=>
  obtain⟨b,e⟩:=Be h q;rw[KR c b a e]
theorem KT(k:Int):cbR true k=EQ k:=by simp[cbR,EQ]
section
variable{l:List Df} (h:(l.map treeD).map Nd.text=l.map Df.name) (hn:(l.map Df.name).Nodup) (hq:∀i<l.length,q2 l i=false)
include h hn hq
omit hq in
theorem Qd{b:Int->Bool}{c:Bool}(g:∀k,cbR c k=b k){i k:Nat}(m:i<l.length)(n:StepI (l.map treeD) b i k):∃d:k<l.length,StepN l c l[i].name l[k].name:=by
 obtain⟨u,o,j,d⟩:=n;obtain⟨a,e⟩:=Be h d;have f:=Ir h hn m;refine⟨a,?_,u,?_,by rw[g];exact j,e.symm⟩
 .rw[idxN_at h,f];simp[uQ]
 .rw[tAt_at h f];exact o
theorem Hb{b:Int->Bool}{c:Bool}(r:∀k,cbR c k=b k){i:Nat}{s:aV}(g:i<l.length)(w:StepN l c l[i].name s):∃k,∃o:k<l.length,s=l[k].name/\StepI (l.map treeD) b i k:=by
 obtain⟨_,u,j,f,e⟩:=w;have v:=Ir h hn g;rw[tAt_at h v]at j;have m:=hq i g;have t:(l.map treeD).getD i default=treeD (l.getD i default):=by
  rw[A0,A0,B2,A2 g];rfl
 have a:secondE l (cA (treeD (l.getD i default)))=0:=G8 λf=>by unfold q2 at m;exact absurd (decide_eq_true f) (by unfold treeD;rw[m];simp)
 rw[<-t]at a;have n:(cA ((l.map treeD).getD i default)).any (p1 l)=false:=by
  rw[Bool.eq_false_iff];intro q;unfold secondE at a;rw[if_pos q]at a;cases a
 have d:p1 l u=false:=by
  rw[List.any_eq_false]at n;simpa using n u j
 unfold p1 at d;rw[idxN_at h]at d;cases q:atN (l.map treeD) u.name with
 |none=>rw[q]at d;simp[uQ]at d
 |some k=>
  obtain⟨o,p⟩:=Be h q;exact⟨k,o,by rw[<-e,p],u,j,by rw[<-r];exact f,q⟩
omit hq in
theorem KU{b:Int->Bool}{c:Bool}(f:∀k,cbR c k=b k){i k:Nat}(g:i<l.length)(m:RchG (StepI (l.map treeD) b) i k):∃d:k<l.length,RchG (StepN l c) l[i].name l[k].name:=by
 induction m with
 |one hs=>obtain⟨d,a⟩:=Qd h hn f g hs;exact⟨d,.one a⟩
 |more _ hs ih=>
  obtain⟨j,e⟩:=ih;obtain⟨d,a⟩:=Qd h hn f j hs;exact⟨d,.more e a⟩
theorem Fd{b:Int->Bool}{c:Bool}(g:∀k,cbR c k=b k){i:Nat}{s:aV}(m:i<l.length)(o:RchG (StepN l c) l[i].name s):∃k,∃d:k<l.length,s=l[k].name/\RchG (StepI (l.map treeD) b) i k:=by
 induction o with
 |one hs=>obtain⟨k,d,e,a⟩:=Hb h hn hq g m hs;exact⟨k,d,e,.one a⟩
 |more _ hs ih=>
  obtain⟨j,n,rfl,f⟩:=ih;obtain⟨k,d,e,a⟩:=Hb h hn hq g n hs;exact⟨k,d,e,.more f a⟩
theorem aAe{i:Nat}(b:i<l.length):Ii (l.map treeD) i=q3 l i:=by
 have d:l.getD i default=l[i]:=by rw[A0,A2 b];rfl
 unfold Ii q3;rw[d,decide_eq_decide,reachI_iff,reachR_iff];constructor
 .intro c;obtain⟨_,a⟩:=KU h hn KT b c;exact a
 .intro c;obtain⟨k,f,e,a⟩:=Fd h hn hq KT b c;rw[<-KR hn b f e]at a;exact a
end
theorem NC(l:List Df):(iV l).2=chkR l:=by
 unfold iV chkR;by_cases b:24<l.length
 .have:dK l=([],0,4):=by unfold dK;rw[if_pos b]
  rw[if_pos b,this];rfl
 .rw[if_neg b];have c:=readP_first (l:=l) aD;unfold chkR1;cases q:eP (q1 l) l.length with
  |some k=>
   rw[q]at c;obtain⟨j,m⟩:=c;simp only;rw[if_pos m,j]
  |none=>
   rw[q]at c;simp only at c|-;have h:(dK l).2.2=0:=by rw[c]
   obtain⟨a,g⟩:=readP_names h;rw[c]at a;simp only at a;rw[if_neg (by rw[h];simp),c];simp only[B6];have n:∀i<l.length,Ih (l.map treeD) i=q2 l i:=λi d=>by
    have f:(l.map treeD).getD i default=treeD (l.getD i default):=by
     rw[A0,A0,B2,A2 d];rfl
    unfold Ih q2;rw[mis_second a,f];rfl
   rw[Bd n];unfold chkR2;cases e:eP (q2 l) l.length with
   |some i=>
    simp only;have d:i<l.length:=by
     unfold eP at e;exact B3.1 (E1 e)
    have f:(l.map treeD).getD i default=treeD (l.getD i default):=by
     rw[A0,A0,B2,A2 d];rfl
    rw[mis_second a,f];rfl
   |none=>
    simp only;have o:∀i<l.length,q2 l i=false:=λi d=>by
     unfold eP at e;rw[F6]at e;simpa using e i (B3.2 d)
    rw[Bd λi d=>aAe a g o d];unfold chkR3;cases eP (q3 l) l.length<;>rfl
end
def KV(d:Df):Prop:=(parseS d.text).2.2=0/\(treeD d).text=d.name/\(fieldsN (treeD d)).Nodup
def Qe(ts:List (aV×Nd×Int×Int))(sh:Bool)(u:dC):Bool:=
 (sh&&decide (u.name=sharedD.name)&&decide (u.kind=0)&&decide (u.bk≠14))||
   ts.any λp=>decide (p.1=u.name)&&decide (p.2.1.kind=u.kind)&&(decide (u.kind≠1)||decide (u.field∈fieldsN p.2.1))&&(decide (u.bk≠14)||(cA p.2.1).all λv=>decide (v.bk≠14))
def Wv(c:UInt8)(sh:Bool)(ts:List (aV×Nd×Int×Int)):Bool:=
 decide (ts.length<=6)&&decide ((ts.map H3).Nodup)&&ts.all (λp=>decide (p.1.getLast?=some c)&&decide (p.2.2.2=0)&&decide (p.2.1.text=p.1)&&decide ((fieldsN p.2.1).Nodup)&&(cA p.2.1).all (Qe ts sh))
def iW(c:UInt8)(sh:Bool)(l:List Df):Bool:=Wv c sh (l.map λd=>(d.name,parseS d.text))
structure ND(c:UInt8)(sh:Bool)(l:List Df):Prop where
 len:l.length<=6
 names:(l.map Df.name).Nodup
 last:∀d∈l,d.name.getLast?=some c
 fine:∀d∈l,KV d
 uses:∀d∈l,∀u∈cA (treeD d),(sh=true/\u.name=sharedD.name/\u.kind=0/\u.bk≠14)\/
  ∃e∈l,e.name=u.name/\(treeD e).kind=u.kind/\(u.kind=1->u.field∈fieldsN (treeD e))/\(u.bk=14->∀v∈cA (treeD e),v.bk≠14)
theorem Ww{c:UInt8}{n:Bool}{l:List Df}(h:iW c n l=true):ND c n l:=by
 unfold iW Wv at h;simp only[C5,decide_eq_true_eq,B6,E8,B0,A8,forall_exists_index,and_imp,forall_apply_eq_imp_iff₂]at h;obtain⟨⟨o,q⟩,j⟩:=h;refine⟨o,q,λd i=>(j d i).1.1.1.1,λd i=>⟨(j d i).1.1.1.2,(j d i).1.1.2,(j d i).1.2⟩,λd i u s=>?_⟩;have g:=(j d i).2 u s;unfold Qe at g;simp only[Bool.or_eq_true,C5,decide_eq_true_eq,List.any_eq_true,A8,B0]at g;rcases g with g|⟨p,⟨e,r,rfl⟩,⟨⟨⟨a,b⟩,c⟩,f⟩⟩
 .exact .inl ⟨g.1.1.1,g.1.1.2,g.1.2,g.2⟩
 .refine .inr ⟨e,r,a,b,λm=>c.resolve_left λk=>k m,λm v t=>?_⟩;exact(f.resolve_left λk=>k m) v t
set_option maxRecDepth 100000 in
theorem Yp:((A4 3).all λi=>(A4 8).all λv=>iW (A5 (48+i)) false (patL 0 i v))=true:=jM
set_option maxRecDepth 100000 in
theorem Yq:((A4 3).all λi=>(A4 8).all λv=>iW (A5 (48+i)) false (patL 1 i v))=true:=jM
set_option maxRecDepth 100000 in
theorem Yr:((A4 3).all λi=>(A4 4).all λv=>iW (A5 (48+i)) false (patL 2 i v))=true:=jM
set_option maxRecDepth 100000 in
theorem Ys:((A4 3).all λi=>(A4 2).all λv=>iW (A5 (48+i)) false (patL 3 i v))=true:=jM
set_option maxRecDepth 100000 in
theorem Yt:((A4 3).all λi=>(A4 2).all λv=>iW (A5 (48+i)) false (patL 4 i v))=true:=jM
set_option maxRecDepth 100000 in
theorem Yu:((A4 3).all λi=>(A4 4).all λv=>iW (A5 (48+i)) false (patL 5 i v))=true:=jM
set_option maxRecDepth 100000 in
theorem Yv:((A4 3).all λi=>(A4 3).all λv=>iW (A5 (48+i)) false (patL 6 i v))=true:=jM
set_option maxRecDepth 100000 in
theorem Yw:((A4 3).all λi=>(A4 3).all λv=>iW (A5 (48+i)) false (patL 7 i v))=true:=jM
set_option maxRecDepth 100000 in
theorem Yx:((A4 3).all λi=>(A4 2).all λv=>iW (A5 (48+i)) false (patL 8 i v))=true:=jM
set_option maxRecDepth 100000 in
theorem Yy:((A4 3).all λi=>(A4 2).all λv=>iW (A5 (48+i)) true (patL 9 i v))=true:=jM
set_option maxRecDepth 100000 in
theorem Wx:((A4 3).all λi=>(A4 3).all λv=>iW (A5 (48+i)) false (patL 10 i v))=true:=jM
set_option maxRecDepth 100000 in
theorem Wy:((A4 3).all λi=>(A4 3).all λv=>iW (A5 (48+i)) false (patL 11 i v))=true:=jM
set_option maxRecDepth 100000 in
theorem Wz:((A4 3).all λi=>(A4 3).all λv=>iW (A5 (48+i)) false (patL 12 i v))=true:=jM
set_option maxRecDepth 100000 in
theorem WA:((A4 3).all λi=>(A4 18).all λv=>iW (A5 (48+i)) false (patL 13 i v))=true:=jM
theorem NE(v:Nat):rowsP (v%8) 0=rowsP v 0:=by
 simp only[rowsP,twoS,orderS,rowS,fiveS,eightS,nineS,lastS,show v%8%2=v%2 by omega,show v%8 / 2%4=v / 2%4 by omega]
theorem NF(v:Nat):rowsP (v%8) 1=rowsP v 1:=by
 simp only[rowsP,twoS,orderS,rowS,fiveS,eightS,nineS,lastS,show v%8%2=v%2 by omega,show v%8 / 2%4=v / 2%4 by omega]
theorem NG(v:Nat):rowsP (v%4) 2=rowsP v 2:=by
 simp only[rowsP,twoS,orderS,rowS,fiveS,eightS,nineS,lastS,show v%4%2=v%2 by omega,show v%4 / 2%2=v / 2%2 by omega]
theorem NH(v:Nat):rowsP (v%2) 3=rowsP v 3:=by
 simp only[rowsP,twoS,orderS,rowS,fiveS,eightS,nineS,lastS,show v%2%2=v%2 by omega]
theorem NI(v:Nat):rowsP (v%2) 4=rowsP v 4:=by
 simp only[rowsP,twoS,orderS,rowS,fiveS,eightS,nineS,lastS,show v%2%2=v%2 by omega]
theorem NJ(v:Nat):rowsP (v%4) 5=rowsP v 5:=by
 simp only[rowsP,twoS,orderS,rowS,fiveS,eightS,nineS,lastS,show v%4%2=v%2 by omega,show v%4 / 2%2=v / 2%2 by omega]
theorem NK(v:Nat):rowsP (v%3) 6=rowsP v 6:=by
 simp only[rowsP,twoS,orderS,rowS,fiveS,eightS,nineS,lastS,show v%3%3=v%3 by omega]
theorem NL(v:Nat):rowsP (v%3) 7=rowsP v 7:=by
 simp only[rowsP,twoS,orderS,rowS,fiveS,eightS,nineS,lastS,show v%3%3=v%3 by omega]
theorem NM(v:Nat):rowsP (v%2) 8=rowsP v 8:=by
 simp only[rowsP,twoS,orderS,rowS,fiveS,eightS,nineS,lastS,show v%2%2=v%2 by omega]
theorem NN(v:Nat):rowsP (v%2) 9=rowsP v 9:=by
 simp only[rowsP,twoS,orderS,rowS,fiveS,eightS,nineS,lastS,show v%2%2=v%2 by omega]
theorem KW(v:Nat):rowsP (v%3) 10=rowsP v 10:=by
 simp only[rowsP,twoS,orderS,rowS,fiveS,eightS,nineS,lastS,show v%3%3=v%3 by omega]
theorem KX(v:Nat):rowsP (v%3) 11=rowsP v 11:=by
 simp only[rowsP,twoS,orderS,rowS,fiveS,eightS,nineS,lastS,show v%3%3=v%3 by omega]
theorem KY(v:Nat):rowsP (v%3) 12=rowsP v 12:=by
 simp only[rowsP,twoS,orderS,rowS,fiveS,eightS,nineS,lastS,show v%3%3=v%3 by omega]
theorem KZ(v:Nat):rowsP (v%18) 13=rowsP v 13:=by
 simp only[rowsP,twoS,orderS,rowS,fiveS,eightS,nineS,lastS,show v%18%9=v%9 by omega,show v%18 / 9%2=v / 9%2 by omega]
theorem La{k i v:Nat}(e:k<14)(d:i<3):ND (A5 (48+i)) (decide (k=9)) (patL k i v):=by
 refine Ww ?_;have a:∀(m:Nat) (b:Bool),0<m->rowsP (v%m) k=rowsP v k->((A4 3).all λi=>(A4 m).all λv=>iW (A5 (48+i)) b (patL k i v))=true->iW (A5 (48+i)) b (patL k i v)=true:=by
  intro m b f c h;have:=B0.1 (B0.1 h i (B3.2 d)) (v%m) (B3.2 (G4 _ f));unfold patL at this|-;rw[c]at this;exact this
 match k,e with
 |0,_=>exact a 8 false bG (NE v) Yp
 |1,_=>exact a 8 false bG (NF v) Yq
 |2,_=>exact a 4 false bG (NG v) Yr
 |3,_=>exact a 2 false bG (NH v) Ys
 |4,_=>exact a 2 false bG (NI v) Yt
 |5,_=>exact a 4 false bG (NJ v) Yu
 |6,_=>exact a 3 false bG (NK v) Yv
 |7,_=>exact a 3 false bG (NL v) Yw
 |8,_=>exact a 2 false bG (NM v) Yx
 |9,_=>exact a 2 true bG (NN v) Yy
 |10,_=>exact a 3 false bG (KW v) Wx
 |11,_=>exact a 3 false bG (KX v) Wy
 |12,_=>exact a 3 false bG (KY v) Wz
 |13,_=>exact a 18 false bG (KZ v) WA
structure aAf(k:Nat)(st:List Df×Bool):Prop where
 len:st.1.length<=6*k+st.2.toNat
 names:(st.1.map Df.name).Nodup
 last:∀d∈st.1,(d=sharedD/\st.2=true)\/∃j<k,d.name.getLast?=some (A5 (48+j))
 shared:st.2=true->sharedD∈st.1
 fine:∀d∈st.1,KV d
 uses:∀d∈st.1,∀u∈cA (treeD d),∃e∈st.1,e.name=u.name/\(treeD e).kind=u.kind/\(u.kind=1->u.field∈fieldsN (treeD e))/\(u.bk=14->∀v∈cA (treeD e),v.bk≠14)
theorem Lb:KV sharedD:=by unfold KV;decide
theorem Lc:cA (treeD sharedD)=[]:=bG
theorem CE:(treeD sharedD).kind=0:=bG
theorem CF:sharedD.name.getLast?=some 100:=bG
theorem Sz{a b:Nat}(c:a<3)(d:b<3)(h:A5 (48+a)=A5 (48+b)):a=b:=by
 have:=congrArg H4 h;rw[D9,D9]at this;omega
theorem Qf{a:Nat}(c:a<3):(100:UInt8)≠A5 (48+a):=by
 intro h;have:=congrArg H4 h;rw[D9]at this;have b:(100:UInt8).toNat=100:=rfl;omega
theorem aAf.add{k:Nat}{g:List Df×Bool}{p:List Df}{G:Bool}(i:k<3)(h:aAf k g)(t:ND (A5 (48+k)) G p):
 aAf (k+1) (if G=true/\g.2=false then(g.1++p++[sharedD],true)else(g.1++p,g.2)):=by
 have F:((g.1++p).map Df.name).Nodup:=by
  rw[D3,E3];refine⟨h.names,t.names,?_⟩;intro a A b o e;subst e;obtain⟨d,c,rfl⟩:=A8.1 A;obtain⟨H,B,y⟩:=A8.1 o;have m:=t.last H B;rw[y]at m;rcases h.last d c with⟨rfl,_⟩|⟨j,E,w⟩
  .rw[CF]at m;injection m with m
   exact Qf i m
  .rw[w]at m;injection m with m
   have:=Sz aD i m;omega
 have D:∀d∈g.1++p,KV d:=λd c=>(A7.1 c).elim (h.fine d) (t.fine d);have C:∀d∈g.1++p,(d=sharedD/\g.2=true)\/∃j<k+1,d.name.getLast?=some (A5 (48+j)):=λd c=>by
  rcases A7.1 c with c|c
  .rcases h.last d c with l|⟨j,E,l⟩
   .exact .inl l
   .exact .inr ⟨j,aD,l⟩
  .exact .inr ⟨k,aD,t.last d c⟩
 have f:(g.1++p).length<=6*(k+1)+g.2.toNat:=by
  have:=h.len;have:=t.len;rw[A1];omega
 split
 .rename_i x;refine⟨?_,?_,λd c=>?_,λ_=>bA,λd c=>?_,λd c u v=>?_⟩
  .simp only[A1,A3,A9,Bool.toNat_true]at f|-;rw[x.2]at f;simp at f;omega
  .rw[D3,E3];refine⟨F,bA,?_⟩;intro a A b o e;simp at o;subst o;obtain⟨d,c,y⟩:=A8.1 A;rcases C d c with⟨_,n⟩|⟨j,E,w⟩
   .rw[x.2]at n;cases n
   .rw[y,e,CF]at w;injection w with w
    exact Qf aD w
  .rcases A7.1 c with c|c
   .rcases C d c with⟨l,_⟩|l
    .exact .inl ⟨l,rfl⟩
    .exact .inr l
   .simp at c;exact .inl ⟨c,rfl⟩
  .rcases A7.1 c with c|c
   .exact D d c
   .simp at c;subst c;exact Lb
  .have J:sharedD∈g.1++p++[sharedD]:=bA;rcases A7.1 c with c|c
   .rcases A7.1 c with c|c
    .obtain⟨e,s,r⟩:=h.uses d c u v;exact⟨e,B4 _ (B4 _ s),r⟩
    .rcases t.uses d c u v with⟨_,l,n,z⟩|⟨e,s,r⟩
     .exact⟨sharedD,J,l.symm,by rw[CE,n],(λi=>by rw[n]at i;cases i),λi=>absurd i z⟩
     .exact⟨e,B4 _ (F1 _ s),r⟩
   .simp at c;subst c;rw[Lc]at v;cases v
 .rename_i x;refine⟨f,F,C,λo=>B4 _ (h.shared o),D,λd c u v=>?_⟩;rcases A7.1 c with c|c
  .obtain⟨e,s,r⟩:=h.uses d c u v;exact⟨e,B4 _ s,r⟩
  .rcases t.uses d c u v with⟨I,l,n,z⟩|⟨e,s,r⟩
   .have o:g.2=true:=by
     cases q:g.2 with
     |true=>rfl
     |false=>exact absurd ⟨I,q⟩ x
    exact⟨sharedD,B4 _ (h.shared o),l.symm,by rw[CE,n],(λi=>by rw[n]at i;cases i),λi=>absurd i z⟩
   .exact⟨e,F1 _ s,r⟩
theorem Yz(l:List Int)(a:List Df×Bool)(i:Nat):prgS l a i=(if decide ((dM l (1+i) 4096).toNat%14=9)=true/\a.2=false then(a.1++patL ((dM l (1+i) 4096).toNat%14) i ((dM l (1+i) 4096).toNat / 14)++[sharedD],true)else(a.1++patL ((dM l (1+i) 4096).toNat%14) i ((dM l (1+i) 4096).toNat / 14),a.2)):=by
 unfold prgS;simp only[decide_eq_true_eq]
theorem BQ(l:List Int)(k:Nat):prgO l (k+1)=prgS l (prgO l k) k:=by
 unfold prgO;rw[G2,List.foldl_append];rfl
theorem Fe(l:List Int):∀k,k<=3->aAf k (prgO l k)
 |0,_=>⟨D6 _,.nil,by simp[prgO],by simp[prgO],by simp[prgO],by simp[prgO]⟩
 |k+1,h=>by
  rw[BQ,Yz];exact(Fe l k aD).add aD (La (G4 _ bG) aD)
theorem It(l:List Int)(i m:Int)(a:0<m):0<=dM l i m/\dM l i m<m:=by
 unfold dM;split
 .exact⟨Int.le_refl _,a⟩
 .exact dN _ _ a
theorem Iu(l:List Int):prgN l<=3:=by
 have:=It l 0 3 bG;unfold prgN;omega
theorem Ld(l:List Int):(prgO l (prgN l)).1.length<=19:=by
 have h:=Fe l _ (Iu l);have a:=Iu l;have b:(prgO l (prgN l)).2.toNat<=1:=G9 _;have:=h.len;omega
theorem WB{n:Nat}{b:Int}{i:Nat}(a:i<n):turnI n b i<n:=by
 unfold turnI;have c:(i+(bT b (n:Int)).toNat)%n<n:=G4 _ aD;simp only;split<;>omega
theorem Qg{x n:Nat}(h:x<2*n):x%n=if x<n then x else x-n:=by
 split
 .exact G0 ‹_›
 .rw[Nat.mod_eq_sub_mod aD,G0 aD]
theorem SA{n:Nat}{b:Int}{i j:Nat}(f:i<n)(g:j<n)(h:turnI n b i=turnI n b j):i=j:=by
 unfold turnI at h;have l:=dN b (n:Int) aD;obtain⟨k,d⟩:∃k:Nat,(bT b (n:Int)).toNat=k:=⟨_,rfl⟩;have e:k<n:=aD;rw[d]at h;have a:=Qg (x:=i+k) (n:=n) aD;have c:=Qg (x:=j+k) (n:=n) aD;simp only at h;rw[a,c]at h;split at h<;>split at h<;>split at h<;>omega
theorem CG{α:Type}[DecidableEq α]:∀{a b:List α},a.Nodup->a⊆b->b.length<=a.length->a.Perm b
 |[],b,_,_,hl=>by
  have:b=[]:=B5 (by simpa using hl);rw[this]
 |x::r,b,hn,hs,hl=>by
  have h:x∈b:=hs (C8 ..);have f:=List.perm_cons_erase h;refine(List.Perm.cons x (CG (G3.1 hn).2 (λy g=>?_) ?_)).trans f.symm
  .have d:=hs (D0 _ g);have c:y≠x:=λe=>(G3.1 hn).1 (e▸g);exact(List.mem_erase_of_ne c).2 d
  .have:=f.length_eq;simp only[A3]at this hl;omega
theorem WC:∀{n:Nat} {f:Nat->Nat},(∀i<n,f i<n)->(∀i<n,∀j<n,f i=f j->i=j)->((A4 n).map f).Perm (A4 n):=by
 intro n f g h;have c:((A4 n).map f).Nodup:=by
  refine D2.2 λi j b d k=>?_;simp at b d|-;intro e;have:=h i b j d e;omega
 have a:(A4 n).map f⊆A4 n:=λx l=>by
  obtain⟨i,b,rfl⟩:=A8.1 l;exact B3.2 (g i (B3.1 b))
 exact CG c a bA
theorem Hc(l:List Df)(b:Int):(turnL l b).Perm l:=by
 have h:=WC (n:=l.length) (f:=turnI l.length b) (λi c=>WB c) λi c j k e=>SA c k e;have a:=h.map λi=>l.getD i default;have d:turnL l b=((A4 l.length).map (turnI l.length b)).map λi=>l.getD i default:=by unfold turnL;rw[E8];rfl
 have g:(A4 l.length).map (λi=>l.getD i default)=l:=by
  refine List.ext_getElem bA λi m a=>?_;simp[A0,a]
 rw[d];rw[g]at a;exact a
theorem Qh(l:List Int):(prgL l).length<=19:=by
 have:=(Hc (prgO l (prgN l)).1 (dM l 4 64)).length_eq;have:=Ld l;unfold prgL;omega
section
attribute[local simp] aR bK bE aO aL aZ aP
attribute[local simp] kJ.cond Nd.d_eq nd_t nd_dr nd_td ndsD aU
theorem YA{n:Int}(b:0<=n)(c:n<4):(chgEmpty.map DV.str)[n.toNat]?.getD default=.str (chgEmpty.getD n.toNat []):=by
 have a:n.toNat<chgEmpty.length:=by show _<4;omega
 rw[B2,A2 a];simp[A0,a]
theorem YB{n:Int}(b:0<=n)(c:n<26):(chgWords.map DV.str)[n.toNat]?.getD default=.str (chgWords.getD n.toNat []):=by
 have a:n.toNat<chgWords.length:=by show _<26;omega
 rw[B2,A2 a];simp[A0,a]
theorem Le(k:Nat):(chgWords.getD k []).length<=17:=by
 rw[A0];cases e:chgWords[k]? with
 |none=>simp
 |some w=>exact(by decide:∀w∈chgWords,w.length<=17) w (C0 e)
theorem Lf(k:Nat):(chgEmpty.getD k []).length<=3:=by
 rw[A0];cases e:chgEmpty[k]? with
 |none=>simp
 |some w=>exact(by decide:∀w∈chgEmpty,w.length<=3) w (C0 e)
theorem YC(y:Int):IntKind.u8.wrap y=y.emod 256:=by
 unfold IntKind.wrap;simp[IntKind.bits,IntKind.signed];rfl
def NO(s w:aV)(a b c:Int)(p q:Nat):aV:=
 if c=0 then s.take p++s.drop q
 else if c=1 then s.take q++32::s.drop p
 else if c=2 then s.take p++32::(w++32::s.drop q)
 else if c=3 then s.take p
 else if c=4 then s.take p++w++32::s.drop p
 else s.set (bT a s.length).toNat (A5 (b.emod 256).toNat)
theorem YD{s:aV}{a how b:Int}(h:(scanS s).1=[]):changedS s a how b=s++chgEmpty.getD (bT b 4).toNat []:=by
 unfold changedS;rw[h]
theorem WD{s:aV}{T:List Tk}{a how b:Int}{t:Tk}{p q:Nat}(h:(scanS s).1=T)(d:T≠[])(c:T[(bT a T.length).toNat]? =some t)(g:t.at_=p)(i:tokE t=q):
 changedS s a how b=NO s (chgWords.getD (bT b 26).toNat []) a b (bT how 6) p q:=by
 unfold changedS;cases e:T with
 |nil=>exact absurd e d
 |cons x r=>
  subst e;rw[h];have f:(x::r).getD (bT a ((r.length+1:Nat):Int)).toNat default=t:=by
   rw[A0];have c:(x::r)[(bT a ((r.length+1:Nat):Int)).toNat]? =some t:=c;rw[c];rfl
  simp only[f,g,i,C1];rfl
theorem YE(s:aV)(a c b:Int):(changedS s a c b).length<=2*s.length+40:=by
 unfold changedS;split
 .have:=Lf (bT b 4).toNat;rw[A1];omega
 .have d:=Le (bT b 26).toNat;simp only[];generalize chgWords.getD (bT b 26).toNat []=w at d;split
  .simp only[A1,B7,C6];omega
  .split
   .simp only[A1,B7,C6,A3];omega
   .split
    .simp only[A1,B7,C6,A3];omega
    .split
     .simp only[B7];omega
     .split
      .simp only[A1,B7,C6,A3];omega
      .rw[C9];omega
theorem Lg(s:aV)(a c b:Int)(hs:s.length<=900000000)(G: -9223372036854775808<=a/\a<=9223372036854775807)(Q: -9223372036854775808<=c/\c<=9223372036854775807)(H: -9223372036854775808<=b/\b<=9223372036854775807):Ok prog 148 [.str s,aI a,aI c,aI b] ⟨.d (.str (changedS s a c b)),true⟩:=by
 refine bU func148 rfl ntmps148 results148 λw0 X I=>?_;obtain⟨T,g⟩:∃T,(scanS s).1=T:=⟨_,rfl⟩;have K:∀t∈T,InT s t:=λt ht=>JQ (g▸ht);have a2:T.length<=s.length:=by rw[<-g];exact nM _ _ _
 have P:=dN b 4 bG;have h:=dN b 26 bG;have a6:=dN c 6 bG;have r4:=eR b 4 H.1 H.2 bG;have O:=eR b 26 H.1 H.2 bG;have r6:=eR c 6 Q.1 Q.2 bG;apply aE;simp;apply aF;have E:=JR s aD;rw[g]at E;refine bH (og 16 (.plain ⟨.tup [.d (.sl (T.map Tk.r)),.d (aI (scanS s).2)],true⟩)) ?_;simp[bM];refine⟨E,?_⟩;apply aF;apply bF;simp;refine⟨λF=>?_,λF=>?_⟩
 .have D:(scanS s).1=[]:=by rw[g];first|exact F|exact B5 aD
  apply aF;have o:=YA P.1 P.2;have r:=Lf (bT b 4).toNat;obtain⟨z,J⟩:∃z,chgEmpty.getD (bT b 4).toNat []=z:=⟨_,rfl⟩;rw[J]at o r;simp[chgEmpty]at o;refine bH (og 25 (.plain ⟨.d (aI (bT b 4)),true⟩)) ?_;simp[o];refine⟨⟨⟨⟨⟨bG,r4⟩,aD⟩,aD⟩,aD⟩,?_⟩;apply aH;simp;rw[YD D,J]
 .have C:T≠[]:=λe=>by rw[e]at F;simp at F
  have W:0<T.length:=D8.2 C;have aT:=dN a (T.length:Int) aD;have rT:=eR a (T.length:Int) G.1 G.2 aD;obtain⟨j,S⟩:∃j:Nat,bT a (T.length:Int)=(j:Int):=⟨(bT a (T.length:Int)).toNat,aD⟩;have B:j<T.length:=aD;obtain⟨t,N⟩:∃t,T[j]=t:=⟨_,rfl⟩;have v:T[j]? =some t:=by rw[A2 B,N]
  obtain⟨p,u,a0,a1⟩:=K t (C0 v);obtain⟨q,Y⟩:∃q:Nat,q=p+t.text.length:=⟨_,rfl⟩;have L:tokE t=q:=by unfold tokE;rw[u,Y];simp
  have M:(p:Int)+(t.text.length:Int)=(q:Int):=by rw[Y];simp
  have V:p<=s.length:=aD;have Z:q<=s.length:=aD;have d:=WD (a:=a) (how:=c) (b:=b) g C (by rw[S,C1];exact v) u L;apply aG;simp;refine dF (og 33 (.plain ⟨.d (aI (j:Int)),true⟩)) ?_;simp[v,Tk.r,u,M];refine⟨⟨by simpa [S]using rT,B⟩,?_⟩;apply aF;have o:=YB h.1 h.2;have r:=Le (bT b 26).toNat;obtain⟨z,J⟩:∃z,chgWords.getD (bT b 26).toNat []=z:=⟨_,rfl⟩;rw[J]at o r d;simp[chgWords]at o;refine bH (og 38 (.plain ⟨.d (aI (bT b 26)),true⟩)) ?_;simp[o];refine⟨⟨⟨⟨bG,O⟩,h⟩,h.2⟩,?_⟩;apply aF;refine dF (og 42 (.plain ⟨.d (aI (bT c 6)),true⟩)) ?_;simp;refine⟨r6,?_⟩;apply aY;apply bF;simp;refine⟨λn=>?_,λn=>?_⟩
  .apply aF;refine gS (oA [0,12,11] [(11,11)] bG bG (by simp[I])) ?_;simp;refine fF.rd [] [] (λ_=>none) ?_;simp;refine⟨by(repeat' with_reducible apply And.intro)<;>first|omega|decide,?_⟩;apply aH;simp;rw[d];unfold NO;rw[if_pos n]
  .apply bF;simp;refine⟨λA=>?_,λA=>?_⟩
   .apply aF;refine gS (oA [0,12,11] [(11,11)] bG bG (by simp[I])) ?_;simp;refine fF.rd [] [] (λ_=>none) ?_;simp;refine⟨by(repeat' with_reducible apply And.intro)<;>first|omega|decide,?_⟩;apply aH;simp;rw[d];unfold NO;rw[if_neg n,if_pos A]
   .apply bF;simp;refine⟨λf=>?_,λf=>?_⟩
    .apply aF;refine gS (oA [0,12,11] [(11,11)] bG bG (by simp[I])) ?_;simp;refine fF.rd [] [] (λ_=>none) ?_;simp;refine⟨by(repeat' with_reducible apply And.intro)<;>first|omega|decide,?_⟩;apply aH;simp;rw[d];unfold NO;rw[if_neg n,if_neg A,if_pos f]
    .apply bF;simp;refine⟨λi=>?_,λi=>?_⟩
     .apply aE;simp;refine⟨by(repeat' with_reducible apply And.intro)<;>first|omega|decide,?_⟩;apply aH;simp;rw[d];unfold NO;rw[if_neg n,if_neg A,if_neg f,if_pos i]
     .apply bF;simp;refine⟨λl=>?_,λl=>?_⟩
      .apply aF;refine gS (oA [0,12,11] [(11,11)] bG bG (by simp[I])) ?_;simp;refine fF.rd [] [] (λ_=>none) ?_;simp;refine⟨by(repeat' with_reducible apply And.intro)<;>first|omega|decide,?_⟩;apply aH;simp;rw[d];unfold NO;rw[if_neg n,if_neg A,if_neg f,if_neg i,if_pos l];simp
      .apply aG;simp;have aS:=dN a (s.length:Int) aD;have rS:=eR a (s.length:Int) G.1 G.2 aD;obtain⟨m,U⟩:∃m:Nat,bT a (s.length:Int)=(m:Int):=⟨(bT a (s.length:Int)).toNat,aD⟩;rw[U]at rS;refine Jq hT jM jM jM jM (λw=>cR (w:=w) hT (t:=5) rfl) rfl rfl rfl rfl rfl rfl rfl rfl rfl rfl rfl rfl rfl rfl rfl rfl rfl rfl rfl rfl rfl rfl rfl rfl rfl rfl rfl rfl rfl rfl rfl rfl rfl rfl rfl rfl rfl rfl rfl rfl rfl rfl rfl rfl rfl (s:=s) (x:=a) (y:=b) (k:=m) bA bA bA aD rS ?_;apply aH;simp;rw[d];unfold NO;rw[if_neg n,if_neg A,if_neg f,if_neg i,if_neg l,U,YC];rfl
end
theorem xD{α:Type}{p:α->Prop}{l:List α}{d:α}(h:∀x∈l,p x){k:Nat}(a:k<l.length):p (l.getD k d):=by
 rw[A0,A2 a];exact h _ (C4 a)
theorem nP(L:List Int)(i:Nat):wholeB (callM L i) true=true:=by
 have h:=bY L i 8 bG;exact xD (p:=λw=>wholeB w true=true) (by decide:∀w∈callL,wholeB w true=true) (show(dM L i 8).toNat<8 by omega)
theorem Hd(L:List Int)(i:Nat):wholeB (ownM L i) false=true:=by
 have h:=bY L i 4 bG;exact xD (p:=λw=>wholeB w false=true) (by decide:∀w∈ownL,wholeB w false=true) (show(dM L i 4).toNat<4 by omega)
theorem xE{k:Int}{t:aV}{n:Int}{a:List Nd}(h:0<=k/\k<=6):0<=(Nd.mk k t n a).kind/\(Nd.mk k t n a).kind<=6:=h
theorem fU{k:Int}{t:aV}{n:Int}(a:0<=k/\k<37)(c:shapedK k []=true)(b:loAt k<=n/\n<=hiAt k)(d:textB k t=true):rightN (.mk k t n [])=true:=
 right_mk.2 ⟨a.1,a.2,c,b.1,b.2,d,λx e=>by cases e⟩
theorem xF(L:List Int)(i:Nat):rightN (.mk 33 (ownM L i) 0 [])=true:=fU bG rfl bG (Hd L i)
theorem oW(L:List Int)(i:Nat):rightN (placeM L i).1=true/\isPlaceK (placeM L i).1.kind=true:=by
 unfold placeM;split
 .exact⟨fU bG rfl bG (nP L (i+1)),rfl⟩
 .exact⟨fU bG rfl bG (Ju (nP L (i+1)) (nP L (i+2))),rfl⟩
theorem CH(L:List Int):∀(d i:Nat),rightN (valueM L d i).1=true/\isExprK (valueM L d i).1.kind=true:=λd=>by
 induction d with
 |zero=>
  intro i;obtain⟨k,_,c⟩:=valK_range L 0 i;have c:=c rfl;by_cases a:valK L 0 i=0\/valK L 0 i=1
  .rw[value_num a];have j:=bY L (i+1) 6 bG;exact⟨fU bG rfl (xD (p:=λn:Int=>loAt 32<=n/\n<=hiAt 32) (by decide:∀n∈numsM,loAt 32<=n/\n<=hiAt 32) (show(dM L (i+1) 6).toNat<6 by omega)) rfl,rfl⟩
  .by_cases b:valK L 0 i=2
   .rw[value_loc b];exact⟨xF L (i+1),rfl⟩
   .by_cases f:valK L 0 i=3\/valK L 0 i=4
    .rw[value_place f];exact⟨(oW L (i+1)).1,gI (oW L (i+1)).2⟩
    .rw[value_kind aD];exact⟨fU bG rfl bG rfl,rfl⟩
 |succ e ih=>
  intro i;obtain⟨k,l,_⟩:=valK_range L (e+1) i;by_cases a:valK L (e+1) i=0\/valK L (e+1) i=1
  .rw[value_num a];have j:=bY L (i+1) 6 bG;exact⟨fU bG rfl (xD (p:=λn:Int=>loAt 32<=n/\n<=hiAt 32) (by decide:∀n∈numsM,loAt 32<=n/\n<=hiAt 32) (show(dM L (i+1) 6).toNat<6 by omega)) rfl,rfl⟩
  .by_cases b:valK L (e+1) i=2
   .rw[value_loc b];exact⟨xF L (i+1),rfl⟩
   .by_cases g:valK L (e+1) i=3\/valK L (e+1) i=4
    .rw[value_place g];exact⟨(oW L (i+1)).1,gI (oW L (i+1)).2⟩
    .by_cases h:valK L (e+1) i=5
     .rw[value_kind h];exact⟨fU bG rfl bG rfl,rfl⟩
     .rw[value_bin aD];exact Bu aD aD (ih (i+1)) (ih (valueM L e (i+1)).2)
theorem kG{k:Int}{t:aV}{n:Int}{a:List Nd}(f:9<=k/\k<=25)(c:textB k t=true)(b:loAt k<=n/\n<=hiAt k)(d:shapedK k a=true)(e:∀x∈a,rightN x=true):
 rightN (.mk k t n a)=true/\isStmtK (Nd.mk k t n a).kind=true:=⟨right_mk.2 ⟨aD,aD,d,b.1,b.2,c,e⟩,isStmtK_iff.2 f⟩
theorem WE{x:Nd}(h:rightN x=true):∀y∈[x],rightN y=true:=λy a=>by rw[B8.1 a];exact h
theorem Ff{L:List Int}{d i:Nat}{a:Nat->Nd×Nat}(h:0<d->∀j,rightN (a j).1=true/\isBlockK (a j).1.kind=true):rightN (oneB L d a i).1=true/\isStmtK (oneB L d a i).1.kind=true:=by
 obtain⟨k,s⟩:∃k,Nk L d i=k:=⟨_,rfl⟩;obtain⟨A,B,z⟩:=tY s;rw[gN s];have n:=λj=>CH L 1 j;have e:=λj=>CH L 2 j;have v:=oW L (i+1);have l:=nP L (i+1);have m:=Hd L (i+1);unfold wU;split
 .rename_i q;subst q;exact kG bG m bG (by simp[shapedK,kidsB,(e (i+1+1)).2]) (WE (e (i+1+1)).1)
 split
 .rename_i q;subst q;refine kG bG rfl bG (by simp[shapedK,kidsB,v.2,(e (placeM L (i+1)).2).2]) λy c=>?_;simp only[B1,D1,or_false]at c;rcases c with rfl|rfl
  .exact v.1
  .exact(e _).1
 split
 .rename_i q;have h:=h (z q);have f:=n (i+1);have g:=h (valueM L 1 (i+1)).2;have o:=h ((a (valueM L 1 (i+1)).2).2+1);have u:∀y∈[(valueM L 1 (i+1)).1,(a (valueM L 1 (i+1)).2).1],rightN y=true:=λy c=>by
   simp only[B1,D1,or_false]at c;rcases c with rfl|rfl
   .exact f.1
   .exact g.1
  have w:∀y∈[(valueM L 1 (i+1)).1,(a (valueM L 1 (i+1)).2).1,(a ((a (valueM L 1 (i+1)).2).2+1)).1],rightN y=true:=λy c=>by
   simp only[B1,D1,or_false]at c;rcases c with rfl|rfl|rfl
   .exact f.1
   .exact g.1
   .exact o.1
  split
  .rename_i q2;subst q2;split
   .exact kG bG rfl bG (by simp[shapedK,kidsB,f.2,g.2,o.2]) w
   .exact kG bG rfl bG (by simp[shapedK,kidsB,f.2,g.2]) u
  .rename_i q2;have q3:k=12:=aD;subst q3;exact kG bG rfl bG (by simp[shapedK,kidsB,f.2,g.2]) u
 split
 .rename_i q;rcases q with rfl|rfl|rfl|rfl<;>exact kG bG l bG rfl λx b=>by cases b
 split
 .rename_i q;rcases q with rfl|rfl<;>exact kG bG l bG (by simp[shapedK,kidsB,(n (i+1+1)).2]) (WE (n (i+1+1)).1)
 split
 .rename_i q;rcases q with rfl|rfl<;>exact kG bG l bG rfl (WE (xF L (i+1+1)))
 split
 .rename_i q;subst q;have t:=bY L (((i+1:Nat):Int)+1) 5 bG;have p:loAt 19=2:=rfl;have r:hiAt 19=6:=rfl;exact kG bG m aD rfl λx b=>by cases b
 split
 .rename_i q;subst q;exact kG bG m bG rfl λx b=>by cases b
 split
 .rename_i q;subst q;have t:=bY L ((i+1:Nat):Int) 9 bG;have p:loAt 21=1:=rfl;have r:hiAt 21=9:=rfl;exact kG bG rfl aD rfl λx b=>by cases b
 split
 .rename_i q;subst q;have t:=bY L ((i+1:Nat):Int) 99 bG;have p:loAt 25=1:=rfl;have r:hiAt 25=99:=rfl;exact kG bG rfl aD rfl λx b=>by cases b
 .have q:k=24:=aD;subst q;exact kG bG rfl bG (by simp[shapedK,kidsB,(e (i+1)).2]) (WE (e (i+1)).1)
theorem CI{L:List Int}{c:Nat->Nd×Nat}(h:∀j,rightN (c j).1=true/\isStmtK (c j).1.kind=true):∀(m:Nat) (b:List Nd) (j:Nat),(∀x∈b,rightN x=true/\isStmtK x.kind=true)->∀x∈(somesM L c m b j).1,rightN x=true/\isStmtK x.kind=true
 |0,b,j,hk=>by simpa [somesM]using hk
 |m+1,b,j,hk=>by
  unfold somesM;split
  .exact hk
  .refine CI h m _ _ λx a=>?_;rcases A7.1 a with a|a
   .exact hk x a
   .rw[B8.1 a];exact h j
theorem NP{L:List Int}{a:Nat->Nd×Nat}(h:∀j,rightN (a j).1=true/\isStmtK (a j).1.kind=true)(i:Nat):rightN (someM L a i).1=true/\isBlockK (someM L a i).1.kind=true:=
 ⟨vW (CI h _ [] _ λx b=>by cases b),rfl⟩
theorem He(L:List Int):∀d i,rightN (oneM L d i).1=true/\isStmtK (oneM L d i).1.kind=true
 |0,i=>by rw[oneM];exact Ff λh=>absurd h (H0 0)
 |d+1,i=>by rw[oneM];exact Ff λ_ j=>NP (He L d) j
theorem Fg(L:List Int):∀(m:Nat) (b:List Nd) (j:Nat),(∀x∈b,rightN x=true/\isStmtK x.kind=true)->∀x∈bodyM L m b j,rightN x=true/\isStmtK x.kind=true
 |0,b,j,hk=>by simpa [bodyM]using hk
 |m+1,b,j,hk=>by
  unfold bodyM;split
  .exact hk
  .refine Fg L m _ _ λx a=>?_;rcases A7.1 a with a|a
   .exact hk x a
   .rw[B8.1 a];exact He L 2 j
theorem xG(L:List Int):∀c,∀x∈itemsM L c,rightN x=true/\isItemK x.kind=true
 |0,x,a=>by cases a
 |c+1,x,a=>by
  rw[itemsM]at a;rcases A7.1 a with a|a
  .exact xG L c x a
  .rw[B8.1 a];have e:=bY L (4+2*c) 1999 bG;have b:loAt 7= -999:=rfl;have d:hiAt 7=999:=rfl;exact⟨fU bG rfl aD (nP L (3+2*c)),rfl⟩
theorem Ag(l:List Int):rightN (treeS l)=true/\0<=(treeS l).kind/\(treeS l).kind<=6:=by
 unfold treeS;generalize l.take 48=L;have b:=nP L 1;have h:=bY L 0 10 bG;have a:=xD (p:=λn:Int=>0<=n/\n<=6) (d:=0) (by decide:∀n∈treeKinds,0<=n/\n<=6) (show(dM L 0 10).toNat<10 by omega);unfold treeB;simp only[];generalize treeKinds.getD (dM L 0 10).toNat 0=k at a;split
 .rename_i q;subst q;have g:=bY L 2 1999 bG;have c:loAt 0= -999:=rfl;have e:hiAt 0=999:=rfl;exact⟨fU bG rfl aD b,xE bG⟩
 split
 .rename_i q;subst q;have g:=bY L 2 4 bG;have c:loAt 2=0:=rfl;have e:hiAt 2=3:=rfl;exact⟨fU bG rfl aD b,xE bG⟩
 split
 .rename_i q;subst q;exact⟨right_mk.2 ⟨bG,bG,B0.2 λx a=>(xG L _ x a).2,bG,bG,b,λx a=>(xG L _ x a).1⟩,xE bG⟩
 split
 .rename_i q;have f:rightN (.mk 8 [] 0 (bodyM L L.length [] 2))=true:=vW (Fg L _ [] 2 λx a=>by cases a);rcases q with rfl|rfl<;>exact⟨right_mk.2 ⟨bG,bG,rfl,bG,bG,b,WE f⟩,xE bG⟩
 .have q:k=3\/k=4:=aD;rcases q with rfl|rfl<;>exact⟨fU bG rfl bG b,xE bG⟩
theorem Fh(l:List Int):DefR (treeS l):=right_def (Ag l).1 (Ag l).2.1 (Ag l).2.2
section
attribute[local simp] aR bK bE aO aL aZ aP
attribute[local simp] kJ.cond Nd.d_eq nd_t nd_dr nd_td ndsD aU
theorem SB{x:Nd}(h:DefR x):(textT x).length<=40*weighN x+40:=by
 obtain⟨_,h⟩:=h;have d:=weighN_eq x;have l:=sN x.kind;have j:=cI x.n;have k:=qG x.kids;unfold textT;simp only[];split
 .rename_i q;split
  .rename_i b a;have e:BlockR b:=by
    rcases h with⟨_,c,g,f⟩|⟨z,_⟩|⟨z,_⟩|⟨z,_⟩|⟨z,_⟩
    .rw[g]at a;have a:[c]=[b]:=a;injection a with a _
     rw[<-a];exact f
    all_goals omega
   have i:=(eS b).2 e;rw[a]at d;simp only[weighL]at d;simp only[A1,A3];omega
  .exact D6 _
 .split
  .simp only[A1,A3,A9];omega
  .split
   .simp only[A1,A3,A9];omega
   .split
    .simp only[A1,A3,A9];omega
    .simp only[A1,A3,A9];omega
theorem SC(l:List Int):(textT (treeS l)).length<=40000040:=by
 have:=SB (Fh l);have:=EN l;omega
end
section
attribute[local simp] aR bK bE aO aL aZ aP
attribute[local simp] kJ.cond Nd.d_eq nd_t nd_dr nd_td ndsD aU bL bO
def Lh(l:List Int):Df:=⟨(treeS l).text,textT (treeS l)⟩
theorem Li(l:List Int)(e:Iy l):Ok prog 79 [.sl (l.map aI)] ⟨.d (Lh l).d,true⟩:=by
 refine Cp func79 rfl ntmps79 results79 λg X f=>?_;obtain⟨x,a⟩:∃x,treeS l=x:=⟨_,rfl⟩;obtain⟨s,d⟩:∃s,textT x=s:=⟨_,rfl⟩;have c:=Wg l e;have b:=UJ x (by rw[<-a];exact Fh l) (by have:=EN l;rw[a]at this;omega);rw[a]at c;rw[d]at b;simp at c b;apply aE;simp;refine dF (og 5 (.plain ⟨.d x.d,false⟩)) ?_;simp;refine⟨c,?_⟩;apply aF;refine fF.rd [[9],[9]] [[],[],[],[9],[],[2]] (og 9 (.plain ⟨.d (.str s),true⟩)) ?_;simp;refine⟨b,?_⟩;apply aH;simp[Lh,a,d,Df.d]
theorem WF(k i v:Nat)(b:k<14)(a:i<3):(patL k i v).length<=6:=(La b a).len
theorem Lj(l:List Int)(s:Iy l):Ok prog 77 [.sl (l.map aI)] ⟨.own 2 ((prgL l).map Df.d),true⟩:=by
 refine bU func77 rfl ntmps77 results77 λV X p=>?_;have L:=It l 0 3 bG;have J:=Jz l 0 3 s bG;have N:(prgN l:Int)=1+dM l 0 3:=by unfold prgN;omega
 have E:=Iu l;apply aE;simp;apply aE;simp;apply aE;simp;apply eT;simp;apply aY;refine bC (ι:=Nat) (λi=>bB [(0,.d (.sl (l.map aI))),(3,.ow 3 0 (prgO l i).1.length),(4,.d (.bool (prgO l i).2)),(5,.d (aI (i:Nat)))]) (λi=>aK [(3,.row false 2 ((prgO l i).1.map Df.d))]) (λi=>i<=prgN l) (λi=>prgN l-i) 0 (aA p [0,3,4,5] [(3,3)] (by simp[prgO]) (by simp[prgO])) (D6 _) λi H=>?_;apply aF;refine dF (og 9 (.plain ⟨.d (aI (dM l 0 3)),true⟩)) ?_;simp;refine⟨⟨by simpa using J,aD⟩,?_⟩;apply aM;simp;refine⟨λD=>?_,λD=>?_⟩
 .have O:i<prgN l:=aD;have C:=It l (1+i) 4096 bG;have A:=Jz l (1+i) 4096 s bG;obtain⟨n,y⟩:∃n:Nat,dM l (1+i) 4096=(n:Int):=⟨(dM l (1+i) 4096).toNat,aD⟩;rw[y]at A C;have b:(n:Int).tmod 14=((n%14:Nat):Int):=rfl;have d:(n:Int).tdiv 14=((n / 14:Nat):Int):=rfl;obtain⟨k,x⟩:∃k:Nat,n%14=k:=⟨_,rfl⟩;obtain⟨v,z⟩:∃v:Nat,n / 14=v:=⟨_,rfl⟩;have f:k<14:=aD;rw[x]at b;rw[z]at d;obtain⟨c,g⟩:∃c,prgO l i=c:=⟨_,rfl⟩;obtain⟨P,r⟩:∃P,patL k i v=P:=⟨_,rfl⟩;have B:=RPattern_ok k i v f aD aD;rw[r]at B;have S:P.length<=6:=by rw[<-r];exact WF k i v f aD
  have U:c.1.length<=19:=by
   have h:=(Fe l i aD).len;have F:(prgO l i).2.toNat<=1:=G9 _;rw[g]at h F;omega
  have a:prgO l (i+1)=if k=9/\c.2=false then(c.1++P++[sharedD],true)else(c.1++P,c.2):=by
   rw[BQ,g];unfold prgS;simp only[y,C1,x,z,r]
  rw[g];apply aG;simp;refine bI (ι:=Unit) (λu=>bB [(0,.d (.sl (l.map aI))),(3,.ow 3 0 (prgO l (i+1)).1.length),(4,.d (.bool (prgO l (i+1)).2)),(5,.d (aI (i:Nat)))]) (λu=>aK [(3,.row false 2 ((prgO l (i+1)).1.map Df.d))]) (λu=>True) ?_ λu G=>?_
  .apply aY;refine dF (og 17 (.plain ⟨.d (aI (n:Int)),true⟩)) ?_;simp;refine⟨⟨aD,by simpa using A⟩,?_⟩;refine dF (og 24 (.plain ⟨.own 2 (P.map Df.d),true⟩)) ?_;simp[b,d];refine⟨⟨⟨aD,by simpa using B⟩,aD⟩,?_⟩;apply aE;simp[b];apply aM;simp;refine⟨λw q=>?_,λw=>?_⟩
   .rw[if_pos ⟨aD,q⟩]at a;apply aE;simp;refine⟨aD,?_⟩;apply aJ;simp;exact(aA p [0,3,4,5] [(36,3)] (by simp[a,Nat.add_assoc]) (by simp[a,sharedD,Df.d,A6 (show(B9 Df.d c.1++B9 Df.d P).length<=c.1.length+P.length by simp)]))
   .rw[if_neg (λh=>by have:=w aD;rw[h.2]at this;cases this)]at a;apply aG;simp;exact(aA p [0,3,4,5] [(25,3)] (by simp[a]) (by simp[a]))
  .apply aJ;simp;refine⟨aD,?_⟩;refine Oe.mk (i+1) (aA p [0,3,4,5] [(3,3)]) ?_ ?_
   .omega
   .omega
 .apply bQ;simp;apply aF;have e:i=prgN l:=aD;subst e;have M:=It l 4 64 bG;have I:=Jz l 4 64 s bG;have Q:=Ld l;have t:=RTurned_ok (prgO l (prgN l)).1 (dM l 4 64) aD aD aD;obtain⟨T,o⟩:∃T,turnL (prgO l (prgN l)).1 (dM l 4 64)=T:=⟨_,rfl⟩;rw[o]at t;obtain⟨j,m⟩:∃j,(prgO l (prgN l)).1=j:=⟨_,rfl⟩;rw[m]at t;have K:C7 j.length (B9 Df.d j)=B9 Df.d j:=A6 (by rw[B6];exact D7 _);refine bH (λ|39=>some<| .plain ⟨.d (aI (dM l 4 64)),true⟩|40=>some<| .plain ⟨.own 2 (T.map Df.d),true⟩|_=>none) ?_;simp[m,K];refine⟨⟨by simpa using I,by simpa using t⟩,?_⟩;apply aH;simp[prgL,o]
def spN:List aV:=[[],[120,48],[116,48],[122,111,111],[105,102]]
def spW:List aV:=[[108,111,99,107],[102,105,108,101],[114,101,99],[112,114,111,99],[116,101,115,116]]
def spT:List aV:=[[59],[59],[32,123,32,97,32,61,32,49,59,32,99,32,61,32,50,59,32,125],[32,123,32,125],[32,123,32,125]]
def spZ:List aV:=[[99,97,108,108,32,122,59],[103,111,32,122,59],[99,97,108,108,32,122,122,59]]
def spA:List aV:=[[97],[98]]
def spC:List aV:=[[97],[98],[99]]
theorem WG:∀w∈spN,w.length<=60:=bG
theorem WH:∀w∈spW,w.length<=60:=bG
theorem WI:∀w∈spT,w.length<=60:=bG
theorem WJ:∀w∈spZ,w.length<=60:=bG
theorem WK:∀w∈spA,w.length<=60:=bG
theorem WL:∀w∈spC,w.length<=60:=bG
def vD(j:Nat):Df:=⟨[118]++itoaS (j:Int),[118,97,114,32,118]++itoaS (j:Int)++[32,61,32,49,59]⟩
def tA(l:List Df)(m:Nat):List Df:=l++(A4 (m-l.length)).map λj=>vD (l.length+j)
def Fi(l:List Df)(how by_ c:Int)(k:Nat)(x:Df):List Df:=
 if c=0 then l.set k ⟨spN.getD (bT (by_.tdiv 3) 5).toNat [],x.text⟩
 else if c=1\/c=2 then l.set k ⟨x.name,changedS x.text (by_.tdiv 3) (how.tdiv 11) by_⟩
 else if c=3 then l.eraseIdx k
 else if c=4 then l++[x]
 else if c=5 then l.set k ⟨x.name,spW.getD (bT (by_.tdiv 3) 5).toNat []++[32]++x.name++spT.getD (bT (by_.tdiv 3) 5).toNat []⟩
 else if c=6 then l++[⟨[122,111,111],[112,114,111,99,32,122,111,111,32,123,32,99,97,108,108,32]++x.name++[59,32,103,111,32,122,111,111,59,32,125]⟩]
 else if c=7 then l++[⟨[122],[112,114,111,99,32,122,32,123,32,99,97,108,108,32,122,122,59,32,125]⟩,⟨[122,122],[112,114,111,99,32,122,122,32,123,32]++spZ.getD (bT by_ 3).toNat []++[32,125]⟩]
 else if c=8 then l++[⟨[103],[114,101,99,32,103,32,123,32,97,32,61,32,49,59,32]++spA.getD (bT by_ 2).toNat []++[32,61,32,50,59,32,125]⟩,⟨[119],[112,114,111,99,32,119,32,123,32,103,46]++spC.getD (bT (by_.tdiv 2) 3).toNat []++[32,61,32,49,59,32,125]⟩]
 else if c=9 then tA l (23+(bT by_ 3).toNat)
 else l.set k ⟨x.name,spacedS x.text [by_,by_.tdiv 3,by_.tdiv 7,how,by_.tdiv 2,1,2]⟩
def gY(l:List Df)(how by_:Int):List Df:=
 if l=[]then [Lh [how,by_]]else Fi l how by_ (bT how 11) (bT by_ l.length).toNat (l.getD (bT by_ l.length).toNat default)
structure mQ(n m:Nat)(l:List Df):Prop where
 len:l.length<=n
 each:∀d∈l,d.name.length<=m/\d.text.length<=m
theorem mQ.set{n m:Nat}{l:List Df}(h:mQ n m l){k:Nat}{x:Df}(b:x.name.length<=m/\x.text.length<=m):mQ n m (l.set k x):=
 ⟨by rw[C9];exact h.len,λd a=>(List.mem_or_eq_of_mem_set a).elim (h.each d) λe=>e▸b⟩
theorem mQ.app{n c m:Nat}{l b:List Df}(h:mQ n m l)(a:mQ c m b):mQ (n+c) m (l++b):=
 ⟨by rw[A1];have:=h.len;have:=a.len;omega,λd e=>(A7.1 e).elim (h.each d) (a.each d)⟩
theorem mQ.mono{n e m c:Nat}{l:List Df}(h:mQ n m l)(f:n<=e)(b:m<=c):mQ e c l:=
 ⟨F7 h.len f,λd a=>⟨F7 (h.each d a).1 b,F7 (h.each d a).2 b⟩⟩
theorem NQ{l m:List Df}(h:Is m (tA l m.length))(a:l.length<=m.length):Is (m++[vD m.length]) (tA l (m++[vD m.length]).length):=by
 have h:m=tA l m.length:=h;show m++[vD m.length]=_;unfold tA at h|-;rw[A1,List.length_singleton,show m.length+1-l.length=(m.length-l.length)+1 by omega,G2,D3,<-F8,<-h];simp[show l.length+(m.length-l.length)=m.length by omega]
theorem SD{l m:List Df}{n:Nat}(h:Is m (tA l m.length))(d:l.length<=m.length)(c:n<=m.length)(b:l.length<m.length->m.length<=n):Is m (tA l n):=by
 by_cases e:l.length<m.length
 .rw[show n=m.length by have:=b e;omega];exact h
 .have h:m=tA l m.length:=h;have a:m.length=l.length:=aD;show m=_;rw[h,a];unfold tA;rw[show n-l.length=0 by omega,Nat.sub_self]
theorem WM{b:List DV}{n k:Nat}(c:b.length=n)(a:k<n):C7 (n-1) (C7 k b++(C7 (n-(k+1)) (H1 (k+1) b)++H1 (n-1) b))=b.eraseIdx k:=by
 rw[<-F8,List.take_append_of_le_length kH,A6 kH,A6 (l:=H1 (k+1) b) kH,C3]
theorem aAg{l:List Df}{k:Nat}:(l.eraseIdx k).map Df.d=(l.map Df.d).eraseIdx k:=by
 rw[C3,C3,D3,F5,List.map_drop]
theorem yU{L:List aV}{n:Int}{w:aV}(c:0<=n)(a:n.toNat<L.length)(b:L.getD n.toNat []=w):(L.map DV.str)[n.toNat]?.getD default=.str w:=by
 rw[str_at a,b]
theorem CJ(l:List Df)(d a:Int)(hs:mQ 100 100000000 l)(S:AZ d)(v:AZ a):Ok prog 78 [gB l,aI d,aI a] ⟨.own 2 ((gY l d a).map Df.d),true⟩:=by
 refine bU func78 rfl ntmps78 results78 λw0 X y=>?_;have hl:=hs.len;have o:AZ (a.tdiv 3):=Id (m:=2) v;have a4:AZ (a.tdiv 7):=Id (m:=6) v;have H:AZ (a.tdiv 2):=Id (m:=1) v;have B:AZ (d.tdiv 11):=Id (m:=10) S;unfold AZ at S v o a4 H B;apply aE;simp;apply aE;simp;refine⟨aD,?_⟩;apply aF;apply bF;simp;refine⟨λZ=>?_,λZ=>?_⟩
 .have Q:l=[]:=by first|exact Z|exact B5 aD
  subst Q;have kd:=Li [d,a] (by intro n O;simp at O;rcases O with rfl|rfl<;>assumption);obtain⟨D,hD⟩:∃D,Lh [d,a]=D:=⟨_,rfl⟩;rw[hD]at kd;have A:gY [] d a=[D]:=by unfold gY;rw[if_pos rfl,hD]
  refine dF (og 19 (.plain ⟨.d D.d,true⟩)) ?_;simp;refine⟨⟨rfl,by simpa using kd⟩,?_⟩;apply aH;simp[A]
 .have P:l≠[]:=λe=>Z (by rw[e]);have a9:0<l.length:=D8.2 P;have ak:=dN a (l.length:Int) aD;have kk:=eR a (l.length:Int) v.1 v.2 aD;obtain⟨k,hk⟩:∃k:Nat,bT a (l.length:Int)=(k:Int):=⟨(bT a (l.length:Int)).toNat,aD⟩;rw[hk]at ak kk;have j:k<l.length:=aD;obtain⟨x,E⟩:∃x,l[k]=x:=⟨_,rfl⟩;obtain⟨b0,b1⟩:=hs.each x (E▸C4 j);have a5:l.getD k default=x:=by rw[A0,A2 j,E];rfl
  have ac:=dN d 11 bG;have kc:=eR d 11 S.1 S.2 bG;obtain⟨c,hc⟩:∃c,bT d 11=c:=⟨_,rfl⟩;rw[hc]at ac kc;have A:gY l d a=Fi l d a c k x:=by unfold gY;rw[if_neg P,hk,C1,hc,a5]
  apply aG;simp;refine dF (og 24 (.plain ⟨.d (aI (k:Int)),true⟩)) ?_;simp;refine⟨kk,?_⟩;apply aE;simp[j,E];refine bI (ι:=List Df) (λr=>bB [(7,.ow 7 0 r.length)]) (λr=>aK [(7,.row false 2 (r.map Df.d))]) (λr=>Is r (Fi l d a c k x)) ?_ λr N=>?_
  .refine dF (og 31 (.plain ⟨.d (aI c),true⟩)) ?_;simp;refine⟨kc,?_⟩;apply aY;apply bF;simp;refine⟨λh8=>?_,λh8=>?_⟩
   .have q:=dN (a.tdiv 3) 5 bG;have g:=eR (a.tdiv 3) 5 o.1 o.2 bG;obtain⟨u,f⟩:∃w,spN.getD (bT (a.tdiv 3) 5).toNat []=w:=⟨_,rfl⟩;have I:u.length<=60:=by rw[<-f];exact getD_len WG
    have i:=yU (L:=spN) q.1 (by show _<5;omega) f;simp[spN]at i;refine bH (og 58 (.plain ⟨.d (aI (bT (a.tdiv 3) 5)),true⟩)) ?_;simp[j,E,i];refine⟨by(repeat' with_reducible apply And.intro)<;>first|omega|with_reducible assumption|decide|simpa using g|simpa using t,?_⟩;refine Xv.mk (l.set k ⟨u,x.text⟩) (aA y [7] [(12,7)] (hH:=by simp[Df.d])) ?_;have e:c=0:=aD;subst e;show l.set k ⟨u,x.text⟩=_;rw[<-f];rfl
   .refine bI (ι:=Unit) (λU=>bB [(0,.d (gB l)),(1,.d (aI d)),(2,.d (aI a)),(7,.ow 12 0 l.length),(8,.d (aI (k:Nat))),(9,.d (.str x.name)),(31,.d (aI c)),(63,.d (.bool (decide (c=1\/c=2))))]) (λU=>aK [(12,.row false 2 (l.map Df.d))]) (λU=>True) ?_ λU a8=>?_
    .apply bF;simp;refine⟨λG=>?_,λG=>?_⟩
     .apply aG;simp;exact(aA y [0,1,2,7,8,9,31,63] [(12,12)] (by simp[G]))
     .apply aJ;simp;exact(aA y [0,1,2,7,8,9,31,63] [(12,12)] (by simp[G]))
    .apply aM;simp;refine⟨λK=>?_,λK a7=>?_⟩
     .have g:=Lg x.text (a.tdiv 3) (d.tdiv 11) a aD o B v;refine bH (og 78 (.plain ⟨.d (.str (changedS x.text (a.tdiv 3) (d.tdiv 11) a)),true⟩)) ?_;simp[j,E];refine⟨by(repeat' with_reducible apply And.intro)<;>first|omega|with_reducible assumption|decide|simpa using g|simpa using t,?_⟩;refine Xv.mk (l.set k ⟨x.name,changedS x.text (a.tdiv 3) (d.tdiv 11) a⟩) (aA y [7] [(12,7)] (hH:=by simp[Df.d])) ?_;rcases K with e|e<;>(subst e;rfl)
     .apply bF;simp;refine⟨λM=>?_,λM=>?_⟩
      .apply aF;refine fF.rd [] [[],[],[],[],[],[],[],[12],[6]] (λ|90=>some .inp|_=>none) ?_;simp[(show((l.length:Int)-((k:Int)+1)).toNat=l.length-(k+1)by omega),(show k+(l.length-(k+1))=l.length-1 by omega)];refine⟨aD,?_⟩;apply aH;have e:gY l d a=l.eraseIdx k:=by rw[A,M];rfl
       rw[e];have el:(l.eraseIdx k).length=l.length-1:=by rw[List.length_eraseIdx];simp[j]
       have er:=WM (b:=l.map Df.d) (n:=l.length) bA j;simp[el];exact⟨aD,by rw[aAg];exact er⟩
      .apply bF;simp;refine⟨λV=>?_,λV=>?_⟩
       .apply aJ;simp[j,E];refine⟨aD,?_⟩;refine Xv.mk (l++[x]) (aA y [7] [(99,7)] (hH:=by simp[Df.d])) ?_;have e:c=4:=aD;subst e;show l++[x]=_;rfl
       .apply bF;simp;refine⟨λW=>?_,λW=>?_⟩
        .have q:=dN (a.tdiv 3) 5 bG;have g:=eR (a.tdiv 3) 5 o.1 o.2 bG;obtain⟨u,f⟩:∃w,spW.getD (bT (a.tdiv 3) 5).toNat []=w:=⟨_,rfl⟩;have I:u.length<=60:=by rw[<-f];exact getD_len WH
         have i:=yU (L:=spW) q.1 (by show _<5;omega) f;simp[spW]at i;have F:=dN (a.tdiv 3) 5 bG;have t:=eR (a.tdiv 3) 5 o.1 o.2 bG;obtain⟨J,s⟩:∃w,spT.getD (bT (a.tdiv 3) 5).toNat []=w:=⟨_,rfl⟩;have a6:J.length<=60:=by rw[<-s];exact getD_len WI
         have z:=yU (L:=spT) F.1 (by show _<5;omega) s;simp[spT]at z;refine fF.rd [[104,107,113,116],[104,107,113,116],[107,113,116],[104,113],[104,113],[104,113],[113,116],[113,116],[113,116],[104,107,113,116],[113,116],[104,107,116],[104,107,113],[104,107,113],[104,113],[104],[104]] [[],[],[104],[],[],[107],[],[],[],[],[],[113],[],[],[116],[],[],[],[],[],[12]] (λ|107=>some<| .plain ⟨.d (aI (bT (a.tdiv 3) 5)),true⟩|116=>some<| .plain ⟨.d (aI (bT (a.tdiv 3) 5)),true⟩|_=>none) ?_;simp[j,E,i,z];refine⟨by(repeat' with_reducible apply And.intro)<;>first|omega|with_reducible assumption|decide|simpa using g|simpa using t,?_⟩;refine Xv.mk (l.set k ⟨x.name,u++[32]++x.name++J⟩) (aA y [7] [(12,7)] (hH:=by simp[Df.d])) ?_;have e:c=5:=aD;subst e;show l.set k ⟨x.name,u++[32]++x.name++J⟩=_;rw[<-f,<-s];rfl
        .apply bF;simp;refine⟨λY=>?_,λY=>?_⟩
         .apply aJ;simp;refine⟨aD,?_⟩;refine Xv.mk (l++[⟨[122,111,111],[112,114,111,99,32,122,111,111,32,123,32,99,97,108,108,32]++x.name++[59,32,103,111,32,122,111,111,59,32,125]⟩]) (aA y [7] [(130,7)] (hH:=by simp[Df.d])) ?_;have e:c=6:=aD;subst e;show l++[⟨[122,111,111],[112,114,111,99,32,122,111,111,32,123,32,99,97,108,108,32]++x.name++[59,32,103,111,32,122,111,111,59,32,125]⟩]=_;rfl
         .apply bF;simp;refine⟨λa0=>?_,λa0=>?_⟩
          .have q:=dN a 3 bG;have g:=eR a 3 v.1 v.2 bG;obtain⟨u,f⟩:∃w,spZ.getD (bT a 3).toNat []=w:=⟨_,rfl⟩;have I:u.length<=60:=by rw[<-f];exact getD_len WJ
           have i:=yU (L:=spZ) q.1 (by show _<3;omega) f;simp[spZ]at i;refine bH (og 137 (.plain ⟨.d (aI (bT a 3)),true⟩)) ?_;simp[i];refine⟨by(repeat' with_reducible apply And.intro)<;>first|omega|with_reducible assumption|decide|simpa using g|simpa using t,?_⟩;refine Xv.mk (l++[⟨[122],[112,114,111,99,32,122,32,123,32,99,97,108,108,32,122,122,59,32,125]⟩,⟨[122,122],[112,114,111,99,32,122,122,32,123,32]++u++[32,125]⟩]) (aA y [7] [(144,7)] (hH:=by simp[Df.d])) ?_;have e:c=7:=aD;subst e;show l++[⟨[122],[112,114,111,99,32,122,32,123,32,99,97,108,108,32,122,122,59,32,125]⟩,⟨[122,122],[112,114,111,99,32,122,122,32,123,32]++u++[32,125]⟩]=_;rw[<-f];rfl
          .apply bF;simp;refine⟨λa1=>?_,λa1=>?_⟩
           .have q:=dN a 2 bG;have g:=eR a 2 v.1 v.2 bG;obtain⟨u,f⟩:∃w,spA.getD (bT a 2).toNat []=w:=⟨_,rfl⟩;have I:u.length<=60:=by rw[<-f];exact getD_len WK
            have i:=yU (L:=spA) q.1 (by show _<2;omega) f;simp[spA]at i;have F:=dN (a.tdiv 2) 3 bG;have t:=eR (a.tdiv 2) 3 H.1 H.2 bG;obtain⟨J,s⟩:∃w,spC.getD (bT (a.tdiv 2) 3).toNat []=w:=⟨_,rfl⟩;have a6:J.length<=60:=by rw[<-s];exact getD_len WL
            have z:=yU (L:=spC) F.1 (by show _<3;omega) s;simp[spC]at z;refine fF.rd [[148,150,156,159,165],[150,156,159],[148,156],[148,156],[156,159],[156,159],[156,159],[156,159],[156,159],[148,150,159],[148,150,156],[148,150,156],[148,156],[148],[148],[148],[148],[148]] [[],[148],[],[150],[],[],[],[],[],[156],[],[],[159],[],[],[],[],[],[165],[12,166]] (λ|150=>some<| .plain ⟨.d (aI (bT a 2)),true⟩|159=>some<| .plain ⟨.d (aI (bT (a.tdiv 2) 3)),true⟩|_=>none) ?_;simp[i,z];refine⟨by(repeat' with_reducible apply And.intro)<;>first|omega|with_reducible assumption|decide|simpa using g|simpa using t,?_⟩;refine Xv.mk (l++[⟨[103],[114,101,99,32,103,32,123,32,97,32,61,32,49,59,32]++u++[32,61,32,50,59,32,125]⟩,⟨[119],[112,114,111,99,32,119,32,123,32,103,46]++J++[32,61,32,49,59,32,125]⟩]) (aA y [7] [(166,7)] (hH:=by simp[Df.d])) ?_;have e:c=8:=aD;subst e;show l++[⟨[103],[114,101,99,32,103,32,123,32,97,32,61,32,49,59,32]++u++[32,61,32,50,59,32,125]⟩,⟨[119],[112,114,111,99,32,119,32,123,32,103,46]++J++[32,61,32,49,59,32,125]⟩]=_;rw[<-f,<-s];rfl
           .apply bF;simp;refine⟨λa2=>?_,λa2=>?_⟩
            .apply aY;refine bC (ι:=List Df) (λm=>bB [(2,.d (aI a)),(7,.ow 12 0 m.length)]) (λm=>aK [(12,.row false 2 (m.map Df.d))]) (λm=>Is m (tA l m.length)/\l.length<=m.length/\(l.length<m.length->m.length<=23+(bT a 3).toNat)/\m.length<=100) (λm=>30-m.length) l (aA y [2,7] [(12,12)]) (⟨by unfold tA Is;simp,D7 _,λh=>absurd h (H0 _),hl⟩) λm p=>?_;apply fL;have aw:=dN a 3 bG;have g:=eR a 3 v.1 v.2 bG;refine bH (og 172 (.plain ⟨.d (aI (bT a 3)),true⟩)) ?_;simp;refine⟨⟨g,aD⟩,?_⟩;apply aM;simp;refine⟨λa3=>?_,λa3=>?_⟩
             .apply aG;simp;apply aY;have kd:=RD_ok (m.length:Int) aD aD;have il:=cI (m.length:Int);refine bH (λ|178=>some<| .plain ⟨.d (.str (itoaS (m.length:Int))),true⟩|182=>some<| .plain ⟨.d (.str (itoaS (m.length:Int))),true⟩|_=>none) ?_;simp;refine⟨by(repeat' with_reducible apply And.intro)<;>first|omega|with_reducible assumption,?_⟩;refine Oe.mk (m++[vD m.length]) (aA y [2,7] [(187,12)] (hH:=by simp[vD,Df.d])) ?_ ?_
              .exact⟨NQ p.1 p.2.1,kH,λ_=>kH,kH⟩
              .simp;omega
             .apply bQ;simp;refine Xv.mk (m) (aA y [7] [(12,7)] (hH:=by simp[Df.d])) ?_;have e:c=9:=aD;subst e;exact SD p.1 p.2.1 aD p.2.2.1
            .have g:=Ey x.text [a,a.tdiv 3,a.tdiv 7,d,a.tdiv 2,1,2] aD (by intro n O;simp at O;rcases O with rfl|rfl|rfl|rfl|rfl|rfl|rfl<;>omega);obtain⟨sp,C⟩:∃w,spacedS x.text [a,a.tdiv 3,a.tdiv 7,d,a.tdiv 2,1,2]=w:=⟨_,rfl⟩;rw[C]at g;simp at g;refine bH (og 48 (.plain ⟨.d (.str sp),true⟩)) ?_;simp[j,E];refine⟨by(repeat' with_reducible apply And.intro)<;>first|omega|with_reducible assumption|decide|simpa using g|simpa using t,?_⟩;refine Xv.mk (l.set k ⟨x.name,sp⟩) (aA y [7] [(12,7)] (hH:=by simp[Df.d])) ?_;have e:c=10:=aD;subst e;show l.set k ⟨x.name,sp⟩=_;rw[<-C];rfl
  .apply aE;simp;apply aH;have e:r=gY l d a:=(show r=_ from N).trans A.symm;have tk:C7 r.length (B9 Df.d r)=B9 Df.d r:=A6 (by rw[B6];exact D7 _);simp[<-e,tk]
def uR:List Df:=[⟨[97],[118,97,114,32,97,32,61,32,48,59]⟩,⟨[103],[114,101,99,32,103,32,123,32,110,32,61,32,49,59,32,125]⟩,⟨[112],[112,114,111,99,32,112,32,123,32,97,32,61,32,103,46,110,59,32,125]⟩,
 ⟨[113],[112,114,111,99,32,113,32,123,32,99,97,108,108,32,112,59,32,103,111,32,113,59,32,125]⟩,⟨[116],[116,101,115,116,32,116,32,123,32,99,97,108,108,32,112,59,32,99,104,101,99,107,32,97,32,61,61,32,49,59,32,125]⟩]
def YV(t:aV):List Df:=[uR[0],uR[1],⟨[112],t⟩,uR[3],uR[4]]
theorem Fj:Ok prog 94 [] ⟨.own 2 (uR.map Df.d),true⟩:=by
 refine bU func94 rfl ntmps94 results94 λb X a=>?_;apply aE;simp;apply aE;simp;refine⟨bG,?_⟩;apply aH;simp[uR,Df.d]
theorem Iv(t:aV):Ok prog 95 [.str t] ⟨.own 2 ((YV t).map Df.d),true⟩:=by
 refine bU func95 rfl ntmps95 results95 λb X a=>?_;apply aE;simp;refine dF (og 4 (.plain ⟨.own 2 (uR.map Df.d),true⟩)) ?_;simp;refine⟨Fj,?_⟩;apply aE;simp;refine⟨⟨bG,bG⟩,?_⟩;apply aE;simp;apply aH;simp[YV,uR,Df.d]
def dAt(l:List Df)(nm:aV):Df:=l.getD (sY l nm).toNat default
def NR(l:List Df)(name:aV):List Df×Int:=
 if(chkR l).2≠0 then([],(chkR l).2)else if sY l name<0 then([],6)else((putS (reachR l name false) name).map (dAt l),0)
end
set_option maxRecDepth 100000
theorem aAh:chkR uR=(5,0):=bG
theorem WN:usesR uR [112]=([[97],[103]],0):=bG
theorem WO:usesR uR [116]=([[97],[112]],0):=bG
theorem WP:testsR uR=[[116]]:=bG
theorem WQ:NR uR [116]=([uR[0],uR[1],uR[2],uR[4]],0):=bG
theorem YF:chkR (YV [112,114,111,99,32,112,32,123,32,97,32,61,32,103,46,109,59,32,125])=(2,6):=bG
theorem YG:chkR (YV [112,114,111,99,32,112,32,123,32,97,32,61,32,116,59,32,125])=(2,12):=bG
theorem YH:chkR (YV [112,114,111,99,32,112,32,123,32,99,97,108,108,32,113,59,32,125])=(2,13):=bG
theorem YI:chkR [uR[0],uR[2],uR[3],uR[4]]=(1,6):=bG
theorem YJ:sZ (bR [⟨[97],[118,97,114,32,97,61,48,32,59]⟩]) (bR [uR[0]])=true:=bG
abbrev Fp(a b:aV):Bool:=Op.bytesLess a b
theorem rK{out:List aV}{s:aV}(h:Rising Fp out):Rising Fp (putS out s):=by
 unfold putS;split
 .exact h
 .rename_i t;obtain⟨u,v⟩:=rpos_spec (p:=λy:aV=>Op.bytesLess s y) (out:=out) out.length (D7 _);have r:=Da (p:=λy:aV=>Op.bytesLess s y) (out:=out) out.length;unfold iP;generalize kQ (λy:aV=>Op.bytesLess s y) out out.length=k at*;have l:∀a∈out.take k,Fp a s=true:=λa j=>by
   obtain⟨i,m,rfl⟩:=F3 j;rw[List.getElem_take];rw[B7]at m;obtain⟨c,rfl⟩:∃c,k=c+1:=⟨k-1,aD⟩;have f:c<out.length:=aD;have o:=v c f rfl;have n:Fp out[c] s=true:=by
    cases q:Fp out[c] s with
    |true=>rfl
    |false=>exact absurd (aV.sto.total _ _ o q) (λe=>t (by rw[e];exact C4 f))
   by_cases e:i=c
   .subst e;exact n
   .exact aV.sto.trans _ _ _ (D2.1 h i c aD f aD) n
  have j:∀b∈out.drop k,Fp s b=true:=λb l=>by
   obtain⟨i,m,rfl⟩:=F3 l;rw[List.getElem_drop];rw[C6]at m;exact u (k+i) aD aD aD
  refine List.pairwise_append.2 ⟨h.sublist (List.take_sublist _ _),List.pairwise_cons.2 ⟨j,h.sublist (List.drop_sublist _ _)⟩,λa g b d=>?_⟩;rcases B1.1 d with rfl|d
  .exact l a g
  .exact aV.sto.trans _ _ _ (l a g) (j b d)
theorem Bf{l:List aV}(h:l.Nodup):Rising Fp (dZ l):=by
 have c:(dZ l).Perm l:=F4 l _;have d:(dZ l).Nodup:=c.nodup_iff.2 h;have e:=dedup_nodup d;rw[<-e];exact dedup_rising aV.sto ((pL l).imp λ{a b} h=>by
  rw[bytesLess_eq,decide_eq_false_iff_not,H5];exact h)
theorem Hf{l:List aV}{s:aV}:s∈dZ l↔s∈l:=(F4 l _).mem_iff
theorem Lk(a:List dC):Rising Fp (putAll a)/\∀s,s∈putAll a↔∃u∈a,u.name=s:=by
 have:∀(a:List dC) (M:List aV),Rising Fp M->Rising Fp (a.foldl (λM u=>putS M u.name) M)/\∀s,s∈a.foldl (λM u=>putS M u.name) M↔s∈M\/∃u∈a,u.name=s:=λa=>by
  induction a with
  |nil=>exact λM h=>⟨h,bA⟩
  |cons u r ih=>
   intro M h;obtain⟨b,c⟩:=ih (putS M u.name) (rK h);rw[E9];refine⟨b,λs=>?_⟩;rw[c,mem_putS];simp only[B1,exists_eq_or_imp];constructor
   .rintro((e|h)|h)
    .exact .inr (.inl e.symm)
    .exact .inl h
    .exact .inr (.inr h)
   .rintro(h|(e|h))
    .exact .inl (.inr h)
    .exact .inl (.inl e.symm)
    .exact .inr h
 have h:=this a [] List.Pairwise.nil;exact⟨h.1,λs=>by simpa [putAll]using h.2 s⟩
theorem Ll(c:List dC):(eW c).Nodup/\∀s,s∈eW c↔∃u∈c,u.name=s:=by
 have:∀(c:List dC) (M:List aV),M.Nodup->(c.foldl (λM u=>BO M u.name) M).Nodup/\∀s,s∈c.foldl (λM u=>BO M u.name) M↔s∈M\/∃u∈c,u.name=s:=λc=>by
  induction c with
  |nil=>exact λM h=>⟨h,bA⟩
  |cons u r ih=>
   intro M h;have d:(BO M u.name).Nodup/\∀s,s∈BO M u.name↔s∈M\/u.name=s:=by
    unfold BO;split
    .rename_i f;exact⟨h,λs=>⟨.inl,λq=>q.elim id λe=>e▸f⟩⟩
    .rename_i f;refine⟨E3.2 ⟨h,bA,λa d b g e=>?_⟩,λs=>by simp[eq_comm]⟩;simp at g;subst g;subst e;exact f d
   obtain⟨i,j⟩:=ih (BO M u.name) d.1;rw[E9];refine⟨i,λs=>?_⟩;rw[j,d.2];simp only[B1,exists_eq_or_imp];rw[or_assoc]
 have h:=this c [] List.nodup_nil;exact⟨h.1,λs=>by simpa [eW]using h.2 s⟩
theorem WR(a:List dC):dZ (eW a)=putAll a:=by
 obtain⟨b,c⟩:=Ll a;obtain⟨d,e⟩:=Lk a;exact rising_eq aV.sto (Bf b) d λs=>by rw[Hf,c,e]
theorem Qi(l:List Df)(a:aV):Ha l a=usesR l a:=by
 unfold Ha usesR;cases l.findIdx? (λd=>decide (d.name=a))with
 |none=>rfl
 |some i=>
  simp only[Fb,usesRAt];rw[WR]
theorem rL{l:List Df}(h:(dK l).2.2=0):(dK l).1=l.map treeD:=by
 have b:=((uB l).2.2 h).1;have a:=readP_first (l:=l) b;cases q:eP (q1 l) l.length with
 |some k=>rw[q]at a;exact absurd h a.2
 |none=>rw[q]at a;rw[a]
theorem WS{l:List Df}(h:(l.map treeD).map Nd.text=l.map Df.name):∀d∈l,(treeD d).text=d.name:=by
 rw[E8]at h;exact List.map_inj_left.1 h
theorem NS{l:List Df}(h:∀d∈l,(treeD d).text=d.name):iL (l.map treeD)=(l.filter λd=>decide ((treeD d).kind=6)).map Df.name:=by
 induction l with
 |nil=>rfl
 |cons d r b=>
  have b:=b λx e=>h x (D0 _ e);have c:=h d (C8 ..);unfold iL at*;rw[D5];by_cases a:(treeD d).kind=6
  .rw[E4 (by simpa using a),E4 (by simpa using a),D5,D5,b,c]
  .rw[E5 (by simpa using a),E5 (by simpa using a),b]
theorem Iw(l:List Df):Rising Fp (testsRt l)/\∀s,s∈testsRt l↔∃d∈l,(treeD d).kind=6/\d.name=s:=by
 have:∀(l:List Df) (M:List aV),Rising Fp M->Rising Fp (l.foldl (λM d=>if(parseS d.text).1.kind=6 then putS M d.name else M) M)/\∀s,s∈l.foldl (λM d=>if(parseS d.text).1.kind=6 then putS M d.name else M) M↔s∈M\/∃d∈l,(treeD d).kind=6/\d.name=s:=λl=>by
  induction l with
  |nil=>exact λM h=>⟨h,bA⟩
  |cons d r ih=>
   intro M h;rw[E9];by_cases b:(parseS d.text).1.kind=6
   .rw[if_pos b];obtain⟨c,f⟩:=ih (putS M d.name) (rK h);refine⟨c,λs=>?_⟩;rw[f,mem_putS];simp only[B1,exists_eq_or_imp];have a:(treeD d).kind=6:=b;constructor
    .rintro((e|h)|h)
     .exact .inr (.inl ⟨a,e.symm⟩)
     .exact .inl h
     .exact .inr (.inr h)
    .rintro(h|(⟨_,e⟩|h))
     .exact .inl (.inr h)
     .exact .inl (.inl e.symm)
     .exact .inr h
   .rw[if_neg b];obtain⟨c,f⟩:=ih M h;refine⟨c,λs=>?_⟩;rw[f];simp only[B1,exists_eq_or_imp];have a:¬(treeD d).kind=6:=b;constructor
    .rintro(h|h)
     .exact .inl h
     .exact .inr (.inr h)
    .rintro(h|(⟨e,_⟩|h))
     .exact .inl h
     .exact absurd e a
     .exact .inr h
 have h:=this l [] List.Pairwise.nil;exact⟨h.1,λs=>by simpa [testsRt]using h.2 s⟩
theorem WT(l:List Df):In l=testsR l:=by
 unfold In testsR;have i:=NC l;by_cases h:(iV l).2.2=0
 .have a:(chkR l).2=0:=by rw[<-i];exact h
  rw[if_neg (by simpa using h),if_neg (by simpa using a)];have g:=chkP_ok h;obtain⟨j,n⟩:=readP_names g;rw[Io,rL g];rw[rL g]at j;rw[NS (WS j)];obtain⟨k,m⟩:=Iw l;have f:((l.filter λd=>decide ((treeD d).kind=6)).map Df.name).Nodup:=n.sublist (List.Sublist.map _ List.filter_sublist);refine rising_eq aV.sto (Bf f) k λs=>?_;rw[Hf];refine Iff.trans ?_ (m s).symm;simp only[A8,F0,decide_eq_true_eq];constructor
  .rintro⟨d,⟨b,c⟩,e⟩;exact⟨d,b,c,e⟩
  .rintro⟨d,b,c,e⟩;exact⟨d,⟨b,c⟩,e⟩
 .have a:(chkR l).2≠0:=by rw[<-i];exact h
  rw[if_pos h,if_pos a]
theorem Hg{p:Nat->Bool}{n i:Nat}(h:eP p n=some i):i<n/\p i=true:=by
 unfold eP at h;exact⟨B3.1 (E1 h),List.find?_some h⟩
theorem NT{p:Nat->Bool}{n:Nat}(h:eP p n=none):∀i<n,p i=false:=λi a=>by
 unfold eP at h;rw[F6]at h;simpa using h i (B3.2 a)
theorem YK{l:List Df}(h:(chkR l).2=0):∀i<l.length,q2 l i=false:=by
 unfold chkR at h;split at h
 .cases h
 .unfold chkR1 at h;cases a:eP (q1 l) l.length with
  |some i=>
   rw[a]at h;have:=(Hg a).2;unfold q1 at this;exact absurd h (of_decide_eq_true this)
  |none=>
   rw[a]at h;simp only at h;unfold chkR2 at h;cases b:eP (q2 l) l.length with
   |some i=>
    rw[b]at h;have:=(Hg b).2;unfold q2 at this;exact absurd h (of_decide_eq_true this)
   |none=>exact NT b
theorem Lm{c:Bool}{a:List aV×List aV}{u:dC}(h:Rising Fp a.1):Rising Fp (bfsS c a u).1:=by
 unfold bfsS;split
 .exact rK h
 .exact h
theorem CK{l:List Df}{c:Bool}:∀(f n:Nat) (a:List aV×List aV),Rising Fp a.1->Rising Fp (bfsF l c f n a)
 |0,_,_,h=>h
 |f+1,n,a,h=>by
  rw[bfsF];cases a.2[n]? with
  |none=>exact h
  |some nm=>
   refine CK f (n+1) _ ?_;unfold bfsN;split
   .exact h
   .have:∀(b:List dC) (a:List aV×List aV),Rising Fp a.1->Rising Fp (b.foldl (bfsS c) a).1:=λb=>by
     induction b with
     |nil=>exact λa h=>h
     |cons u r ih=>exact λa h=>ih _ (Lm h)
    exact this _ a h
theorem Fy{L:List aV}(h:L.Pairwise λa b=>a<=b)(c:L.Nodup):Rising Fp L:=by
 rw[<-dedup_nodup c];exact dedup_rising aV.sto (h.imp λ{a b} h=>by rw[bytesLess_eq,decide_eq_false_iff_not,H5];exact h)
theorem YL{l:List Df}(h:(l.map treeD).map Nd.text=l.map Df.name)(b:(l.map Df.name).Nodup){i:Nat}(a:i<l.length):dAt l l[i].name=l[i]:=by
 unfold dAt;rw[idxN_at h,Ir h b a];simp only[uQ,C1];rw[A0,A2 a];rfl
theorem Qj(k:Int):cbR false k=allB k:=by simp[cbR,allB]
theorem WU(l:List Df)(c:aV):sliceP l c=NR l c:=by
 unfold sliceP NR;have z:=NC l;by_cases v:(iV l).2.2=0
 .have h:(chkR l).2=0:=by rw[<-z];exact v
  rw[if_neg (by simpa using v),if_neg (by simpa using h)];have B:=chkP_ok v;obtain⟨q,w⟩:=readP_names B;rw[Io,rL B];rw[rL B]at q;have E:=YK h;rw[idxN_at q];cases D:atN (l.map treeD) c with
  |none=>simp[uQ]
  |some i=>
   obtain⟨p,rfl⟩:=Be q D;rw[if_neg (show¬(uQ (some i)<0)by show¬((i:Int)<0);omega)];have o:(l.map treeD).length=l.length:=bA;have C:=sliceAt_names (ts:=l.map treeD) (i:=i) w o (by rw[o];exact p);have A:=reachI_in (l.map treeD) allB i;have a:=nO (sliceAt l (l.map treeD) i);have x:Rising Fp ((bR (sliceAt l (l.map treeD) i)).map Df.name):=by
    refine Fy ?_ ((a.map Df.name).nodup_iff.2 C);rw[List.pairwise_map];exact pM _
   have y:Rising Fp (putS (reachR l l[i].name false) l[i].name):=rK (CK _ _ _ List.Pairwise.nil);have j:∀d∈sliceAt l (l.map treeD) i,∃k,∃f:k<l.length,d=l[k]/\(k=i\/k∈reachI (l.map treeD) allB i):=λd b=>by
    rw[sliceAt_eq]at b;obtain⟨k,f,rfl⟩:=A8.1 b;rcases B1.1 f with rfl|f
    .exact⟨k,p,by rw[A0,A2 p];rfl,.inl rfl⟩
    .have r:=(F0.1 f).1;have t:k<l.length:=by have:=A.2 k r;rwa[o]at this
     exact⟨k,t,by rw[A0,A2 t];rfl,.inr r⟩
   have g:(bR (sliceAt l (l.map treeD) i)).map Df.name=putS (reachR l l[i].name false) l[i].name:=by
    refine rising_eq aV.sto x y λs=>?_;rw[mem_putS,reachR_iff];constructor
    .intro u;obtain⟨d,b,rfl⟩:=A8.1 u;obtain⟨k,f,rfl,m⟩:=j d (a.mem_iff.1 b);rcases m with rfl|m
     .exact .inl rfl
     .obtain⟨_,n⟩:=KU q w Qj p ((reachI_iff _ _ _ _).1 m);exact .inr n
    .intro u;refine A8.2 ?_;rcases u with rfl|u
     .exact⟨l[i],a.mem_iff.2 (by rw[sliceAt_eq];exact A8.2 ⟨i,C8 ..,by rw[A0,A2 p];rfl⟩),rfl⟩
     .obtain⟨k,f,rfl,n⟩:=Fd q w E Qj p u;refine⟨l[k],a.mem_iff.2 ?_,rfl⟩;rw[sliceAt_eq];refine A8.2 ⟨k,?_,by rw[A0,A2 f];rfl⟩;by_cases e:k=i
      .subst e;exact C8 ..
      .exact D0 _ (F0.2 ⟨(reachI_iff _ _ _ _).2 n,by simpa using e⟩)
   rw[<-g,E8];refine Prod.ext ?_ rfl;show bR (sliceAt l (l.map treeD) i)=_
   conv=>lhs;rw[<-List.map_id (bR (sliceAt l (l.map treeD) i))]
   refine List.map_congr_left λd b=>?_;obtain⟨k,f,rfl,_⟩:=j d (a.mem_iff.1 b);exact(YL q w f).symm
 .have h:(chkR l).2≠0:=by rw[<-z];exact v
  rw[if_pos v,if_pos h,<-z]
section
attribute[local simp] aR bK bE aO aL aZ aP
attribute[local simp] kJ.cond Nd.d_eq nd_t nd_dr nd_td ndsD aU jB
theorem uD(a b:List aV):Ok prog 35 [AA a,AA b] ⟨.d (.bool (decide (a=b))),true⟩:=by
 refine bU func35 rfl ntmps35 results35 λl X k=>?_;refine fF.len (t:=0) rfl λd=>?_;simp at d;apply aE;simp;apply aF;apply bF;simp;refine⟨λj=>?_,λj=>?_⟩
 .apply aE;simp;apply aH;simp;exact λe=>j (by rw[e])
 .apply aG;simp;apply eT;simp;apply aY;refine bC (ι:=Nat) (λi=>bB [(0,.d (AA a)),(1,.d (AA b)),(5,.d (aI i))]) (λi=>aK []) (λi=>i<=a.length/\a.take i=b.take i) (λi=>a.length-i) 0 (aA k [0,1,5] []) bA λi c=>?_;apply aF;apply bF;simp;refine⟨λf=>?_,λf=>?_⟩
  .apply aG;simp;apply eE;apply aF;refine fF.rd [] [] (λ_=>none) ?_;simp[f,show i<b.length by omega];apply aM;simp;refine⟨λh=>?_,λh=>?_⟩
   .apply aE;simp;apply aH;simp;intro e;subst e;simp at h
   .apply aG;simp;apply aJ;simp;refine⟨aD,?_⟩;refine Oe.mk (i+1) (aA k [0,1,5] []) ?_ ?_
    .exact⟨f,HG c.2 f aD (by simpa using h)⟩
    .omega
  .apply bQ;simp;apply aE;simp;apply aH;simp;have e:i=a.length:=aD;have:=c.2;rw[e,E6]at this;have g:a.length=b.length:=aD;rw[this,g,E6]
end
section
attribute[local simp] aR bK bE aO aL aZ aP
attribute[local simp] kJ.cond Nd.d_eq nd_t nd_dr nd_td ndsD aU bL bO
theorem xH{l:List Df}{a b:Int}(h:chkR l=(a,b)):Ok prog 34 [gB l] ⟨.tup [.d (aI a),.d (aI b)],true⟩:=by
 have k:=Bb l;rw[show(iV l).2=(a,b) from(NC l).trans h]at k;exact k
theorem SE:Ok prog 31 [] ⟨.d (.bool true),true⟩:=by
 refine bU func31 rfl ntmps31 results31 λm X l=>?_;apply aE;simp;refine dF (og 19 (.plain ⟨.own 2 (uR.map Df.d),true⟩)) ?_;simp;refine⟨Fj,?_⟩;refine dF (og 22 (.plain ⟨.tup [.d (aI 5),.d (aI 0)],true⟩)) ?_;simp[bM];refine⟨by simpa using xH aAh,?_⟩;apply aF;have k:=Qb uR [112];rw[Qi,WN]at k;refine bH (og 27 (.plain ⟨.tup [.own 1 ([[97],[103]].map .str),.d (aI 0)],true⟩)) ?_;simp[bM];refine⟨by simpa using k,?_⟩;apply aF;have d:=Qb uR [116];rw[Qi,WO]at d;refine bH (og 32 (.plain ⟨.tup [.own 1 ([[97],[112]].map .str),.d (aI 0)],true⟩)) ?_;simp[bM];refine⟨by simpa using d,?_⟩;apply aF;have c:=Slice_ok uR [116] bG;rw[WU,WQ]at c;obtain⟨b,a⟩:∃b,[uR[0],uR[1],uR[2],uR[4]]=b:=⟨_,rfl⟩;rw[a]at c;refine bH (og 37 (.plain ⟨.tup [.own 2 (b.map Df.d),.d (aI 0)],true⟩)) ?_;simp[bM];refine⟨by simpa using c,?_⟩;refine dF (λ|41=>some<| .plain ⟨.own 2 ((YV [112,114,111,99,32,112,32,123,32,97,32,61,32,103,46,109,59,32,125]).map Df.d),true⟩|42=>some<| .plain ⟨.tup [.d (aI 2),.d (aI 6)],true⟩|_=>none) ?_;simp[bM];refine⟨⟨Iv _,by simpa using xH YF⟩,?_⟩;refine dF (λ|46=>some<| .plain ⟨.own 2 ((YV [112,114,111,99,32,112,32,123,32,97,32,61,32,116,59,32,125]).map Df.d),true⟩|47=>some<| .plain ⟨.tup [.d (aI 2),.d (aI 12)],true⟩|_=>none) ?_;simp[bM];refine⟨⟨Iv _,by simpa using xH YG⟩,?_⟩;refine dF (λ|51=>some<| .plain ⟨.own 2 ((YV [112,114,111,99,32,112,32,123,32,99,97,108,108,32,113,59,32,125]).map Df.d),true⟩|52=>some<| .plain ⟨.tup [.d (aI 2),.d (aI 13)],true⟩|_=>none) ?_;simp[bM];refine⟨⟨Iv _,by simpa using xH YH⟩,?_⟩;apply aF;refine fF.rd [[60],[56],[56],[56],[56],[],[56,60,61],[56,60,61]] [[56],[],[],[],[60],[56,61],[],[],[61,64],[65]] (og 65 (.plain ⟨.tup [.d (aI 1),.d (aI 6)],true⟩)) ?_;simp[bM,uR,Df.d];refine⟨by simpa [uR,Df.d]using xH YI,?_⟩;apply aF;apply bF;simp;apply aG;simp;apply aF;have e:=Wp uR;rw[WT,WP]at e;have g:=uD [[116]] [[116]];have h:=uD [[97],[103]] [[97],[103]]
 have i:=uD [[97],[112]] [[97],[112]];simp[uR,Df.d]at e;simp at g h i;refine bH (λ|119=>some<| .plain ⟨.own 1 [.str [116]],true⟩|121=>some<| .plain ⟨.d (.bool true),true⟩|125=>some<| .plain ⟨.d (.bool true),true⟩|130=>some<| .plain ⟨.d (.bool true),true⟩|_=>none) ?_;simp;refine⟨by(repeat' with_reducible apply And.intro)<;>first|with_reducible assumption|decide,?_⟩;apply aF;have j:=RSameDefs_ok b b (by rw[<-a];decide);have f:=BP [⟨[97],[118,97,114,32,97,61,48,32,59]⟩] [uR[0]] bG bG;rw[YJ]at f;simp[<-a,uR,Df.d]at j f;refine fF.rd [[],[],[147],[],[],[],[],[],[],[],[],[],[],[],[],[],[],[],[],[],[],[152],[152]] [[],[],[],[],[],[],[],[],[],[],[],[],[],[],[],[147],[148],[],[],[],[152],[],[],[155]] (λ|148=>some<| .plain ⟨.d (.bool true),true⟩|155=>some<| .plain ⟨.d (.bool true),true⟩|_=>none) ?_;simp[<-a,uR,Df.d];refine⟨by(repeat' with_reducible apply And.intro)<;>first|with_reducible assumption|decide,?_⟩;apply aH;simp
theorem SF{x:Nd}(h:DefR x):x.text.length<=(textT x).length:=by
 obtain⟨_,h⟩:=h;unfold textT;simp only[];split
 .rename_i q;split
  .simp only[A1,A3];omega
  .rename_i a;rcases h with⟨_,c,b,d⟩|⟨z,_⟩|⟨z,_⟩|⟨z,_⟩|⟨z,_⟩
   .exact absurd (by rw[b];rfl) (a c)
   all_goals omega
 .split
  .simp only[A1,A3];omega
  .split
   .simp only[A1,A3];omega
   .split<;>(simp only[A1,A3];omega)
theorem Fk(l:List Int):(Lh l).name.length<=40000040/\(Lh l).text.length<=40000040:=by
 have a:=SC l;have b:=SF (Fh l);exact⟨by show(treeS l).text.length<=40000040;omega,a⟩
theorem NU(k i v:Nat):∀d∈patL k i v,d.name.length<=2000/\d.text.length<=4000:=by
 intro d a;unfold patL ofL at a;obtain⟨r,b,rfl⟩:=A8.1 a;obtain⟨c,e,f⟩:=(rowsP_small v k).2 r b;have g:=cI (i:Int);refine⟨?_,?_⟩
 .show(r.l++itoaS (i:Int)).length<=2000;rw[A1];omega
 .show(r.w++[32]++(r.l++itoaS (i:Int))++lV r.t i).length<=4000;simp only[A1,fillS_len,A3,A9];omega
theorem Fl(l:List Int):∀k,∀d∈(prgO l k).1,d.name.length<=2000/\d.text.length<=4000
 |0=>by simp[prgO]
 |k+1=>by
  intro d a;have c:=Fl l k;rw[BQ]at a;unfold prgS at a;simp only at a;have b:∀d∈(prgO l k).1++patL ((dM l (1+k) 4096).toNat%14) k ((dM l (1+k) 4096).toNat / 14),d.name.length<=2000/\d.text.length<=4000:=λd a=>(A7.1 a).elim (c d) (NU _ _ _ d);split at a
  .rcases A7.1 a with a|a
   .exact b d a
   .simp at a;subst a;decide
  .exact b d a
theorem Hh(l:List Int):mQ 19 4000 (prgL l):=by
 refine⟨Qh l,λd a=>?_⟩;have:=Fl l (prgN l) d ((Hc _ _).mem_iff.1 a);omega
theorem rM{l:List Df}{n m:Nat}(h:mQ n m l)(D:1000<=m)(E:1<=n)(c a:Int):mQ (n+26) (21*m+40000040) (gY l c a):=by
 unfold gY;split
 .exact⟨by show 1<=_;omega,λd b=>by simp at b;subst b;have:=Fk [c,a];omega⟩
 .rename_i o;have q:0<l.length:=D8.2 o;have z:=dN a (l.length:Int) aD;obtain⟨k,w⟩:∃k:Nat,bT a (l.length:Int)=(k:Int):=⟨(bT a (l.length:Int)).toNat,aD⟩;rw[w,C1];have g:k<l.length:=aD;obtain⟨x,r⟩:∃x,l.getD k default=x:=⟨_,rfl⟩;have p:x∈l:=by rw[<-r,A0,A2 g];exact C4 g
  obtain⟨q1,q2⟩:=h.each x p;rw[r];have e:mQ (n+26) (21*m+40000040) l:=h.mono aD aD;have A:=getD_len (k:=(bT (a.tdiv 3) 5).toNat) WG;have B:=getD_len (k:=(bT (a.tdiv 3) 5).toNat) WH;have C:=getD_len (k:=(bT (a.tdiv 3) 5).toNat) WI;have s:=getD_len (k:=(bT a 3).toNat) WJ;have t:=getD_len (k:=(bT a 2).toNat) WK;have u:=getD_len (k:=(bT (a.tdiv 2) 3).toNat) WL;have f:∀i:List Df,i.length<=26->(∀d∈i,d.name.length<=21*m+40000040/\d.text.length<=21*m+40000040)->mQ (n+26) (21*m+40000040) (l++i):=λi e v=>(h.mono (D7 _) aD).app ⟨e,v⟩;unfold Fi;split
  .exact e.set ⟨zB,zB⟩
  .split
   .have:=YE x.text (a.tdiv 3) (c.tdiv 11) a;exact e.set ⟨zB,zB⟩
   .split
    .exact⟨by have:=E7 l k;have:=h.len;omega,λd b=>e.each d (List.mem_of_mem_eraseIdx b)⟩
    .split
     .exact f _ bA (λd b=>by simp at b;subst b;omega)
     .split
      .exact e.set ⟨zB,by dsimp only;simp only[A1,A3,A9];omega⟩
      .split
       .exact f _ bA (λd b=>by simp at b;subst b;simp only[A1,A3,A9];omega)
       .split
        .exact f _ bA (λd b=>by simp at b;rcases b with rfl|rfl<;>simp only[A1,A3,A9]<;>simp at s|-<;>omega)
        .split
         .exact f _ bA (λd b=>by simp at b;rcases b with rfl|rfl<;>simp only[A1,A3,A9]<;>simp at t u|-<;>omega)
         .split
          .unfold tA;have y:=dN a 3 bG;refine f _ kH (λd b=>?_);obtain⟨j,_,rfl⟩:=A8.1 b;have:=cI ((l.length+j:Nat):Int);refine⟨by show(_++itoaS ((l.length+j:Nat):Int)).length<=_;simp only[A1,A3,A9];omega,by show(_++itoaS ((l.length+j:Nat):Int)++_).length<=_;simp only[A1,A3,A9];omega⟩
          .have:=MU x.text [a,a.tdiv 3,a.tdiv 7,c,a.tdiv 2,1,2];exact e.set ⟨zB,zB⟩
def cN(m:List Int):Nat:=min 6 ((m.length-1) / 10)
def cDf(m:List Int)(j:Nat):Df:=Lh ((m.take (10*j+10)).drop (10*j))
def cL(m:List Int):List Df:=(A4 (cN m)).map (cDf m)
theorem WV(m:List Int):(cL m).length=cN m:=by simp[cL]
theorem YW(m:List Int):cN m<=6:=by unfold cN;omega
def uE(l m:List Int)(how by_:Int)(raw:aV):List (List Df):=
 [prgL l,gY (prgL l) how by_,gY (gY (prgL l) how by_) by_ how,cL m,prgL l++cL m,[⟨[112,48],raw.take 60⟩],[⟨[112,48],[112,114,111,99,32,112,48,32,123,32]++raw.take 60++[32,125]⟩],[]]
theorem SG(l m:List Int)(how by_:Int)(raw:aV)(J:Iy l)(K:Iy m)(A:AZ how)(z:AZ by_)(M:raw.length<=9223372036854775807):Ok prog 23 [.sl (l.map aI),.sl (m.map aI),aI how,aI by_,.str raw] ⟨.d (.sl ((uE l m how by_ raw).map gB)),false⟩:=by
 refine bU func23 rfl ntmps23 results23 λW X C=>?_;obtain⟨a,p⟩:∃a,prgL l=a:=⟨_,rfl⟩;obtain⟨b,e⟩:∃b,gY a how by_=b:=⟨_,rfl⟩;obtain⟨g,f⟩:∃g,gY b by_ how=g:=⟨_,rfl⟩;obtain⟨c,q⟩:∃c,cL m=c:=⟨_,rfl⟩;have d:uE l m how by_ raw=[a,b,g,c,a++c,[⟨[112,48],raw.take 60⟩],[⟨[112,48],[112,114,111,99,32,112,48,32,123,32]++raw.take 60++[32,125]⟩],[]]:=by unfold uE;rw[p,e,f,q]
 have v:mQ 19 4000 a:=by rw[<-p];exact Hh l
 have w:mQ 45 41000000 b:=by rw[<-e];exact(rM v bG bG how by_).mono bG bG
 have x:mQ 71 1000000000 g:=by rw[<-f];exact(rM w bG bG by_ how).mono bG bG
 have U:=v.len;have V:=w.len;have N:=x.len;have E:=Lj l J;have F:=CJ a how by_ (v.mono bG bG) A z;have i:=CJ b by_ how (w.mono bG bG) z A;rw[p]at E;rw[e]at F;rw[f]at i;have O:c.length=cN m:=by rw[<-q,WV]
 have S:=YW m;obtain⟨o,h⟩:∃r,raw.take 60=r:=⟨_,rfl⟩;have k:=Wh raw 60 M;rw[h]at k d;have P:o.length<=60:=by rw[<-h,B7];omega
 apply aE;simp;refine dF (og 17 (.plain ⟨.own 2 (a.map Df.d),true⟩)) ?_;simp;refine⟨E,?_⟩;refine dF (og 21 (.plain ⟨.own 2 (b.map Df.d),true⟩)) ?_;simp[A6 (show(a.map Df.d).length<=a.length by simp)];refine⟨by simpa using F,?_⟩;apply aE;simp;apply eT;simp;apply aY;refine bC (ι:=Nat) (λj=>bB [(1,.d (.sl (m.map aI))),(2,.d (aI how)),(3,.d (aI by_)),(4,.d (.str raw)),(11,.ow 11 0 a.length),(12,.ow 12 0 b.length),(13,.ow 13 0 j),(14,.d (aI (10*j:Nat)))]) (λj=>aK [(11,.row false 2 (a.map Df.d)),(12,.row false 2 (b.map Df.d)),(13,.row false 2 ((c.take j).map Df.d))]) (λj=>j<=cN m) (λj=>cN m-j) 0 (aA C [1,2,3,4,11,12,13,14] [(17,11),(21,12),(13,13)]) (D6 _) λj s=>?_;apply eT;simp;refine⟨aD,?_⟩;apply aM;simp;refine⟨λH I=>?_,λH=>?_⟩
 .have B:j<cN m:=by unfold cN;omega
  have G:=Li ((m.take (10*j+10)).drop (10*j)) (λn L=>K n (List.mem_of_mem_take (List.mem_of_mem_drop L)));obtain⟨D,y⟩:∃D,Lh ((m.take (10*j+10)).drop (10*j))=D:=⟨_,rfl⟩;rw[y]at G;have u:c.take (j+1)=c.take j++[D]:=by
   rw[C2 aD];simp[<-q,cL,cDf,y]
  have t:C7 (j+1) (B9 Df.d c)=C7 j (B9 Df.d c)++[D.d]:=by rw[<-F5,u,D3,F5];rfl
  apply aG;simp;apply eE;refine bH (og 39 (.plain ⟨.d D.d,true⟩)) ?_;simp[(show(10*(j:Int)).toNat=10*j by omega),(show(10*(j:Int)+10).toNat=10*j+10 by omega)];refine⟨by(repeat' with_reducible apply And.intro)<;>first|omega|rfl|simpa using G,?_⟩;apply aJ;simp;refine⟨aD,?_⟩;refine Oe.mk (j+1) (aA C [1,2,3,4,11,12,13,14] [(11,11),(12,12),(41,13)] (by simp[show(10*(j:Int)+10)=10*((j:Int)+1)by omega]) (by simp[t,F2,Df.d])) ?_ ?_
  .omega
  .omega
 .apply bQ;simp;apply aF;have B:j=c.length:=by rw[O];unfold cN at s|-;omega
  subst B;have Q:C7 c.length (B9 Df.d c)=B9 Df.d c:=A6 (by rw[B6];exact D7 _);refine bH (og 43 (.plain ⟨.d (.str o),true⟩)) ?_;simp;refine⟨k,?_⟩;refine dF (og 49 (.plain ⟨.own 2 (g.map Df.d),true⟩)) ?_;simp[Q,A6 (show(b.map Df.d).length<=b.length by simp),A6 (show(a.map Df.d).length<=a.length by simp)];refine⟨by(repeat' with_reducible apply And.intro)<;>first|omega|rfl|simpa using i,?_⟩;apply aH;simp[d,A6 (show(B9 Df.d a++B9 Df.d c).length<=a.length+c.length by simp)]
theorem Hi(l:List Df)(b a:Int):(gY l b a).length<=max (l.length+2) 25:=by
 unfold gY;split
 .show 1<=_;omega
 .unfold Fi;have c:=dN a 3 bG;split
  .rw[C9];omega
  .split
   .rw[C9];omega
   .split
    .have:=E7 l (bT a l.length).toNat;omega
    .split
     .simp;omega
     .split
      .rw[C9];omega
      .split
       .simp;omega
       .split
        .simp;omega
        .split
         .simp;omega
         .split
          .unfold tA;simp;omega
          .rw[C9];omega
theorem SH{l m:List Int}{b a:Int}{e:aV}:∀d∈uE l m b a e,d.length<=27:=by
 intro d c;have f:=Qh l;have g:=Hi (prgL l) b a;have h:=Hi (gY (prgL l) b a) a b;have i:=WV m;have j:=YW m;unfold uE at c;simp only[B1,D1,or_false]at c;rcases c with rfl|rfl|rfl|rfl|rfl|rfl|rfl|rfl
 .omega
 .omega
 .omega
 .omega
 .rw[A1];omega
 .show 1<=27;omega
 .show 1<=27;omega
 .show 0<=27;omega
theorem WW(d:Df):(jT d).length<=max d.text.length 1024:=by
 unfold jT;split
 .omega
 .unfold printS;split
  .rename_i h;simp only[validB,C5,decide_eq_true_eq]at h;omega
  .simp
theorem Ln{l m:List Int}{c b:Int}{e:aV}:∀d∈uE l m c b e,∀x∈d,x.name.length<=1000000000/\x.text.length<=1000000000:=by
 have k:=Hh l;have n:mQ 45 41000000 (gY (prgL l) c b):=(rM k bG bG c b).mono bG bG;have f:mQ 71 1000000000 (gY (gY (prgL l) c b) b c):=(rM n bG bG b c).mono bG bG;have h:∀x∈cL m,x.name.length<=1000000000/\x.text.length<=1000000000:=λx a=>by
  obtain⟨j,_,rfl⟩:=A8.1 a;have:=Fk ((m.take (10*j+10)).drop (10*j));unfold cDf;omega
 have g:∀x∈prgL l,x.name.length<=1000000000/\x.text.length<=1000000000:=λx a=>by have:=k.each x a;omega
 intro d i;simp only[uE,B1,D1,or_false]at i;rcases i with rfl|rfl|rfl|rfl|rfl|rfl|rfl|rfl
 .exact g
 .intro x a;have:=n.each x a;omega
 .intro x a;have:=f.each x a;omega
 .exact h
 .intro x a;exact(A7.1 a).elim (g x) (h x)
 .intro x a;rw[B8.1 a];simp;omega
 .intro x a;rw[B8.1 a];simp;omega
 .intro x a;cases a
theorem Lo{l m:List Int}{how by_:Int}{raw:aV}:∀d∈uE l m how by_ raw,Hshort d:=λd a=>by
 have c:=SH d a;refine⟨aD,λx b=>?_⟩;have e:=Ln d a x b;have f:=WW x;omega
theorem Lp:∀l:List UInt8,fX (jD l) (jD l)=some true
 |[]=>rfl
 |x::l=>by
  have h:=Lp l;simp only[jD,D5,pJ,fX,FB,if_true]at*;rw[h];simp
theorem Hj:∀l:List UInt8,bV (G5 l.length (.int .u8)) (jD l)=true
 |[]=>rfl
 |x::l=>by
  have h:=Hj l;simp only[A3,List.replicate_succ,jD,D5,bV]at*;rw[h];rfl
theorem SI(l m:List Int)(how by_:Int)(e:List Int)(hl:Iy l)(hm:Iy m)(hh:AZ how)(hb:AZ by_)(a7:Iy e):Ok prog 6 [.sl (l.map aI),.sl (m.map aI),aI how,aI by_,.sl (e.map aI)] ⟨.d (.bool true),true⟩:=by
 refine bU func6 rfl ntmps6 results6 λw0 X j=>?_;obtain⟨L,hL⟩:∃L,uE l m how by_ []=L:=⟨_,rfl⟩;have a2:L.length=8:=by rw[<-hL];rfl
 have kl:=SG l m how by_ [] hl hm hh hb bA;have K:=Lo (l:=l) (m:=m) (how:=how) (by_:=by_) (raw:=[]);rw[hL]at kl K;apply aE;simp;refine dF (og 34 (.plain ⟨.d (.sl (L.map gB)),false⟩)) ?_;simp;refine⟨kl,?_⟩;apply eT;simp;apply aY;refine bC (ι:=Nat) (λi=>bB [(4,.d (.sl (e.map aI))),(11,.d (.sl (L.map gB))),(12,.d (aI (i:Nat)))]) (λi=>aK []) (λi=>i<=8) (λi=>8-i) 0 (aA j [4,11,12] []) (D6 _) λi b5=>?_;apply eT;simp[a2];apply aM;simp;refine⟨λh3=>?_,λh3=>?_⟩
 .apply aG;simp;apply eE;apply aF;have H:i<L.length:=aD;obtain⟨d,G⟩:∃d,L[i]=d:=⟨_,rfl⟩;have a5:d∈L:=by rw[<-G];exact C4 H
  have o:=K d a5;have b2:=o.1;apply aJ;simp;apply aE;simp;apply eT;simp;apply aY;refine bC (ι:=Nat) (λk=>bB [(4,.d (.sl (e.map aI))),(11,.d (.sl (L.map gB))),(12,.d (aI (i:Nat))),(13,.ow 13 0 k),(14,.ow 14 0 k),(15,.d (aI (k:Nat)))]) (λk=>aK [(13,.row false 2 (((d.take k).map (spD e)).map Df.d)),(14,.row false 2 (((d.take k).map prD).map Df.d))]) (λk=>k<=d.length) (λk=>d.length-k) 0 (aA j [4,11,12,13,14,15] [(13,13),(14,14)]) (D6 _) λk b6=>?_;apply eT;simp[H,G];apply aM;simp;refine⟨λh8=>?_,λh8=>?_⟩
  .apply aG;simp;apply eE;apply aF;have I:k<d.length:=aD;obtain⟨x,hx⟩:∃x,d[k]=x:=⟨_,rfl⟩;have kp:=wX x.text;obtain⟨P,O⟩:∃P,parseS x.text=P:=⟨_,rfl⟩;have M:=qP x.text;have J:=EC (s:=x.text);rw[O]at kp M J;obtain⟨u,z⟩:∃u,u=if P.2.2=0 then spacedS x.text e else x.text:=⟨_,rfl⟩;obtain⟨v,hv⟩:∃v,v=if P.2.2=0 then printS P.1 else x.text:=⟨_,rfl⟩;have Z:prD x=⟨x.name,v⟩:=by
    unfold prD;rw[O,hv];split<;>rfl
   have t:C7 (k+1) (B9 (Df.d∘spD e) d)=C7 k (B9 (Df.d∘spD e) d)++[(spD e x).d]:=by
    rw[C2 (by simpa using I)];simp[hx]
   have y:C7 (k+1) (B9 (Df.d∘prD) d)=C7 k (B9 (Df.d∘prD) d)++[(prD x).d]:=by
    rw[C2 (by simpa using I)];simp[hx]
   have p:min k d.length=k:=aD;apply aJ;simp[H,G,I,hx];refine dF (og 60 (.plain ⟨.tup [.d P.1.d,.d (aI P.2.1),.d (aI P.2.2)],false⟩)) ?_;simp[bM];refine⟨by simpa using kp,?_⟩;apply aE;simp;refine bI (ι:=Unit) (λw=>bB [(4,.d (.sl (e.map aI))),(11,.d (.sl (L.map gB))),(12,.d (aI (i:Nat))),(13,.ow 13 0 k),(14,.ow 14 0 k),(15,.d (aI (k:Nat))),(16,.bx 16 0),(19,.d (aI P.2.2)),(20,.bx 20 0)]) (λw=>aK [(13,.row false 2 (((d.take k).map (spD e)).map Df.d)),(14,.row false 2 (((d.take k).map prD).map Df.d)),(16,.box false [.d (.str x.name),.d (.str v)]),(20,.box false [.d (.str x.name),.d (.str u)])]) (λw=>True) ?_ λw b0=>?_
   .apply bF;simp;refine⟨λn=>?_,λn=>?_⟩
    .apply aF;have a9:=Ey x.text e (by have:=(J n).1;omega) a7;refine bH (og 70 (.plain ⟨.d (.str (spacedS x.text e)),true⟩)) ?_;simp;refine⟨by simpa using a9,?_⟩;have a8:=JJ P.1 M;refine bH (og 73 (.plain ⟨.d (.str (printS P.1)),true⟩)) ?_;simp;refine⟨by simpa using a8,?_⟩;exact(aA j [4,11,12,13,14,15,16,19,20] [(13,13),(14,14),(16,16),(20,20)] (hH:=by simp[z,hv,n]))
    .apply aG;simp;exact(aA j [4,11,12,13,14,15,16,19,20] [(13,13),(14,14),(16,16),(20,20)] (hH:=by simp[z,hv,n]))
   .apply aF;have kq:=wX u;obtain⟨Y,A⟩:∃Y,parseS u=Y:=⟨_,rfl⟩;rw[A]at kq;obtain⟨c,F⟩:∃c,c=decide (P.2.2=0/\¬Y.2.2=0/\(1024:Int)<((u.length:Nat):Int)):=⟨_,rfl⟩;refine bH (og 78 (.plain ⟨.tup [.d Y.1.d,.d (aI Y.2.1),.d (aI Y.2.2)],false⟩)) ?_;simp[bM];refine⟨by simpa using kq,?_⟩;apply aF;refine bI (ι:=Unit) (λw=>bB [(4,.d (.sl (e.map aI))),(11,.d (.sl (L.map gB))),(12,.d (aI (i:Nat))),(13,.ow 13 0 k),(14,.ow 14 0 k),(15,.d (aI (k:Nat))),(16,.bx 16 0),(20,.bx 20 0),(93,.d (.bool c))]) (λw=>aK [(13,.row false 2 (((d.take k).map (spD e)).map Df.d)),(14,.row false 2 (((d.take k).map prD).map Df.d)),(16,.box false [.d (.str x.name),.d (.str v)]),(20,.box false [.d (.str x.name),.d (.str u)])]) (λw=>True) ?_ λw b1=>?_
    .obtain⟨q1,q2⟩|⟨q1,q2⟩|⟨q1,q2⟩:(P.2.2=0/\Y.2.2=0)\/(P.2.2=0/\¬Y.2.2=0)\/(¬P.2.2=0/\True):=by by_cases h1:P.2.2=0<;>by_cases h2:Y.2.2=0<;>simp[h1,h2]
     .apply aJ;simp[q1,q2];exact(aA j [4,11,12,13,14,15,16,20,93] [(13,13),(14,14),(16,16),(20,20)] (by simp[F,q1,q2]))
     .apply aJ;simp[q1,q2];exact(aA j [4,11,12,13,14,15,16,20,93] [(13,13),(14,14),(16,16),(20,20)] (by simp[F,q1,q2]))
     .apply aJ;simp[q1,q2];exact(aA j [4,11,12,13,14,15,16,20,93] [(13,13),(14,14),(16,16),(20,20)] (by simp[F,q1,q2]))
    .apply aM;simp;refine⟨λa=>?_,λa=>?_⟩
     .have W:spD e x=⟨x.name,v⟩:=by
       rw[F,decide_eq_true_eq]at a;unfold spD;rw[O,if_pos a.1,if_pos,Z];rw[z,if_pos a.1]at A a;rw[A];exact⟨a.2.1,aD⟩
      apply aJ;simp;apply aE;simp[p];refine⟨⟨aD,aD⟩,?_⟩;apply aJ;simp[p];refine⟨⟨aD,aD⟩,?_⟩;apply aJ;simp;refine⟨aD,?_⟩;refine Oe.mk (k+1) (aA j [4,11,12,13,14,15] [(98,13),(102,14)] (hH:=by simp[t,y,F2,Df.d,W,Z])) ?_ ?_
      .omega
      .omega
     .have W:spD e x=⟨x.name,u⟩:=by
       rw[F,decide_eq_false_iff_not]at a;unfold spD;rw[O];by_cases q:P.2.2=0
       .rw[if_pos q]at z|-;rw[z]at A a;rw[A,if_neg λh=>a ⟨q,h.1,aD⟩,z]
       .rw[if_neg q]at z|-;rw[z]
      apply aG;simp;apply aE;simp[p];refine⟨⟨aD,aD⟩,?_⟩;apply aJ;simp[p];refine⟨⟨aD,aD⟩,?_⟩;apply aJ;simp;refine⟨aD,?_⟩;refine Oe.mk (k+1) (aA j [4,11,12,13,14,15] [(98,13),(102,14)] (hH:=by simp[t,y,F2,Df.d,W,Z])) ?_ ?_
      .omega
      .omega
  .apply bQ;simp;apply aF;have I:k=d.length:=aD;subst I;obtain⟨b,f⟩:∃b,d.map (spD e)=b:=⟨_,rfl⟩;obtain⟨c,g⟩:∃c,d.map prD=c:=⟨_,rfl⟩;have b3:b.length=d.length:=by rw[<-f,B6]
   have b4:c.length=d.length:=(by rw[<-g,B6]);have B:=alike_sp e;have N:=alike_pr;have a3:Hshort b:=by rw[<-f];exact short_f B o
   have a4:Hshort c:=(by rw[<-g];exact short_f N o);have e1:iV b=iV d:=(by rw[<-f];exact chkP_f B d);have e2:iV c=iV d:=(by rw[<-g];exact chkP_f N d);have e3:dig7 b=dig7 d:=(by rw[<-f];exact dig_f B d);have e4:dig7 c=dig7 d:=(by rw[<-g];exact dig_f N d);have e5:sZ (bR d) (bR b)=true:=(by rw[<-f];exact same_f0 B d);have e6:sZ (bR b) (bR c)=true:=(by rw[<-f,<-g];exact same_f B N d);have c1:=Bb d;have Q:=Bb b;have S:=Bb c;rw[e1]at Q;rw[e2]at S;obtain⟨Y,A⟩:∃Y,(iV d).2=Y:=⟨_,rfl⟩;rw[A]at c1 Q S;have g1:=TDigest_ok d o;have U:=TDigest_ok b a3;have V:=TDigest_ok c a4;have s1:=BP d b aD aD;have s2:=BP b c aD aD;rw[e3]at U;rw[e4]at V;rw[e5]at s1;rw[e6]at s2;obtain⟨D,C⟩:∃D,D=dig7 d:=⟨_,rfl⟩;rw[<-C]at g1 U V;have r:D.length=16:=by rw[C];simp[dig7,jD,Dc]
   have a0:fX D D=some true:=(by rw[C];exact Lp _);have E:bV (G5 16 (.int .u8)) D=true:=(by rw[C,<-Dc 8 (digP (bR d))];exact Hj _);have a1:D≠[]:=λh=>by rw[h]at r;cases r
   clear C;refine gS (iO.close 13 (x:=gB b) (by simp[<-f,gB])) ?_;simp;refine gS (iO.close 14 (x:=gB c) (by simp[<-g,gB])) ?_;simp;refine bH (og 108 (.plain ⟨.tup [.d (aI Y.1),.d (aI Y.2)],true⟩)) ?_;simp[bM,H,G];refine⟨c1,?_⟩;refine dF (og 113 (.plain ⟨.tup [.d (aI Y.1),.d (aI Y.2)],true⟩)) ?_;simp[bM];refine⟨Q,?_⟩;refine dF (og 118 (.plain ⟨.tup [.d (aI Y.1),.d (aI Y.2)],true⟩)) ?_;simp[bM];refine⟨S,?_⟩;refine dF (λ|145=>some<| .plain ⟨.d (.bool true),true⟩|151=>some<| .plain ⟨.d (.bool true),true⟩|159=>some<| .plain ⟨.d (.agg D),true⟩|161=>some<| .plain ⟨.d (.agg D),true⟩|169=>some<| .plain ⟨.d (.agg D),true⟩|171=>some<| .plain ⟨.d (.agg D),true⟩|_=>none) ?_;simp[H,G,a0,E,a1]
   trace_state
   refine⟨by(repeat' with_reducible apply And.intro)<;>first|with_reducible assumption|simpa using E|simpa using g1|simpa using U|simpa using V|simpa using s1|simpa using s2,?_⟩;apply aM;simp;apply aG;simp;apply aJ;simp;refine⟨aD,?_⟩;refine Oe.mk (i+1) (aA j [4,11,12] []) ?_ ?_
   .omega
   .omega
 .apply bQ;simp;apply aF;have a6:=SE;refine bH (og 174 (.plain ⟨.d (.bool true),true⟩)) ?_;simp;refine⟨a6,?_⟩;apply aH;simp
end
open Go.RowKit
def Ix(P:Program):List Field->Nat->Bool
 |[],_=>true
 |f::r,o=>f.offset==o&&Ix P r (o+P.cellsOf f.type)
def xI(P:Program):Nat->TypeId->DataW Unit->Option (List Value)
 |0,_,_=>none
 |n+1,t,d=>match P.underlying t,d with
  |some (.int _),.lit (.int k z)=>some [.int k z]
  |some .string,.lit (.string s)=>some [.string ⟨s.toArray⟩]
  |some (.array _ e),.agg ds=>match ds.mapM (xI P n e)with
   |some xs=>if xs.all (λx=>x.length==P.cellsOf e)&&xs.length*P.cellsOf e==P.cellsOf t then some xs.flatten else none
   |none=>none
  |some (.struct fs),.agg ds=>match(fs.toList.zip ds).mapM (λp=>xI P n p.1.type p.2)with
   |some xs=>if Ix P fs.toList 0&&xs.flatten.length==P.cellsOf t&&((fs.toList.zip xs).all λp=>p.2.length==P.cellsOf p.1.type)&&ds.length==fs.size then some xs.flatten else none
   |none=>none
  |_,_=>none
theorem Hk{c:Nat}:∀(b:List (List Value)) (a:List Value),a.length=b.length*c->(∀(i:Nat) (x:List Value),b[i]? =some x->(a.drop (i*c)).take c=x)->a=b.flatten
 |[],a,hl,_=>by
  have:a=[]:=B5 (by simpa using hl);simp[this]
 |x::b,a,hl,h=>by
  have d:=h 0 x rfl;simp only[Nat.zero_mul,G6]at d;have e:=Hk (c:=c) b (a.drop c) (by rw[C6,hl,A3,H2];omega) λi y f=>by
   have:=h (i+1) y (by simpa using f);rw[G7,Nat.add_comm c,<-H2];exact this
  rw[F9,<-e,<-d,List.take_append_drop]
theorem CL{P:Program}{cs:List Value}:∀(b:List Field) (a:List (List Value)) (o:Nat),Ix P b o=true->a.length=b.length->(∀(i:Nat) (f:Field) (x:List Value),b[i]? =some f->a[i]? =some x->(cs.drop f.offset).take (P.cellsOf f.type)=x/\x.length=P.cellsOf f.type)->
 (cs.drop o).take a.flatten.length=a.flatten
 |[],[],_,_,_,_=>bA
 |[],_::_,_,_,h,_=>by simp at h
 |_::_,[],_,_,h,_=>by simp at h
 |f::b,x::a,o,ho,hl,h=>by
  simp only[Ix,C5,beq_iff_eq]at ho;obtain⟨c,d⟩:=h 0 f x rfl rfl;have j:=CL b a (o+P.cellsOf f.type) ho.2 (by simpa using hl) λi g y e k=>h (i+1) g y (by simpa using e) (by simpa using k);rw[ho.1]at c;rw[F9,A1,List.take_add,d,c,G7,j]
theorem SJ{W:TypeId×Value->Unit}{P:Program}{w:World}{H:Nat}{sp:Nat->Bool}{held:Bool}:∀(n a:Nat) (t:TypeId) (E:List Value) (d:DataW Unit) (p:List MemPlace) (V:List Value),
 DataW.trod W P w H sp held a t E=some (d,p)->xI P n t d=some V->E=V:=by
 intro n;induction n with
 |zero=>intro a t E d p V _ h;cases h
 |succ n ih=>
  intro a t E d p V o g;unfold xI at g;split at g
  .rename_i k' k z B;obtain⟨m,rfl,C,_⟩:=DataW.trod_int B o;injection C with e1 e2
   injection e1 with e1
   injection e1 with e3 e4
   subst e3 e4;exact Option.some.inj g
  .rename_i s B;obtain⟨b,rfl,C,_⟩:=DataW.trod_string B o;injection C with e1 e2
   injection e1 with e1
   injection e1 with e3
   subst e3;exact Option.some.inj g
  .rename_i m e l B;cases a with
   |zero=>simp[DataW.trod]at o
   |succ a=>
    unfold DataW.trod at o;rw[B]at o;simp only at o;split at o
    .rename_i Y;obtain⟨S,hm,C⟩:=Option.map_eq_some_iff.1 o;have q:S.map (·.1)=l:=by
      have:=congrArg H3 C;simpa using this
     split at g
     .rename_i G j;split at g
      .rename_i I;simp only[C5,B0,beq_iff_eq]at I;have g:=Option.some.inj g;rw[<-g];have O:S.length=m:=by simpa using Lib.mapM_length hm
       have M:G.length=l.length:=Lib.mapM_length j;have a1:l.length=m:=by rw[<-q,B6,O]
       refine Hk (c:=P.cellsOf e) G E (by rw[Y,I.2]) λi x K=>?_;have hi:i<m:=by have:=(List.getElem?_eq_some_iff.1 K).1;omega
       obtain⟨y,U,X⟩:=Lib.mapM_at hm i i (by simp[hi]);have u:l[i]? =some y.1:=by rw[<-q,B2,U];rfl
       obtain⟨F,D,A⟩:=Lib.mapM_at j i _ u;have:F=x:=Option.some.inj (D.symm.trans K);subst this;exact ih a e _ y.1 y.2 F X A
      .cases g
     .cases g
    .cases o
  .rename_i r l B;obtain⟨S,m,rfl,C,Y,O,X⟩:=DataW.trod_struct B o;have q:S.map (·.1)=l:=by
    have:=congrArg H3 C;simpa using this.symm
   split at g
   .rename_i G j;split at g
    .rename_i I;simp only[C5,B0,beq_iff_eq]at I;obtain⟨⟨⟨c1,c2⟩,c3⟩,c4⟩:=I;have g:=Option.some.inj g;rw[<-g];have M:G.length=(r.toList.zip l).length:=Lib.mapM_length j;have a0:(r.toList.zip l).length=r.size:=by rw[List.length_zip,c4];simp
     have Q:=CL (P:=P) (cs:=E) r.toList G 0 c1 (by rw[M,a0];simp) λi f x v L=>by
      have J:r[i]? =some f:=by simpa using v
      have N:=X i f J;have hi:i<r.size:=(E0.1 J).1;obtain⟨y,U⟩:∃y,S[i]? =some y:=⟨_,A2 aD⟩;rw[U]at N;have u:l[i]? =some y.1:=by rw[<-q,B2,U];rfl
      have hz:(r.toList.zip l)[i]? =some (f,y.1):=by
       rw[E2];exact⟨v,u⟩
      obtain⟨F,D,A⟩:=Lib.mapM_at j i _ hz;have:F=x:=Option.some.inj (D.symm.trans L);subst this;refine⟨ih m f.type _ _ _ F N A,?_⟩;have Z:(r.toList.zip G)[i]? =some (f,F):=by
       rw[E2];exact⟨v,L⟩
      exact c3 _ (C0 Z)
     rw[G6,c2,<-Y,E6]at Q;exact Q
    .cases g
   .cases g
  .cases g
def WX:DV->Value
 | .int k n=>.int k n
 | .str s=>.string ⟨s.toArray⟩
 |_=>undef
def aAX:DV->Bool
 | .int _ _=>true
 | .str _=>true
 |_=>false
theorem qR{P:Program}{W:World}{e:String}{g H:Nat}{t K:TypeId}{o:Array Value}{f n:Nat}{p:List MemPlace}{d:DataW Unit}{l:List DV}{B:TypeId×Value->Unit}{r:Nat}{Q:Nat->Bool}{held:Bool}
 (C:P.globalNamed e=some g)(G:(P.globals[g]?).map (·.type)=some t)(D:P.globalNamed e=some H)(F:(P.globals[H]?).map (·.type)=some K)(a:W.var? P e=some o)
 (L:DataW.trod B P W r Q held f K o.toList=some (d,p))(y:xI P n t d=some (l.map WX))(w:l.all aAX=true):
 RD W (λ_=>False) (.ro l) (.pointer (some ⟨g,0,none⟩))/\∃q t m,W.heap[g]? =some (.cells q t m)/\q.size=l.length:=by
 obtain rfl:=Option.some.inj (C.symm.trans D);obtain rfl:=Option.some.inj (G.symm.trans F);have I:=SJ n f t o.toList d p _ L y;have E:o.size=l.length:=by
  have:=congrArg List.length I;simpa using this
 have b:∃z m,W.heap[g]? =some (.cells o z m):=by
  unfold World.var? at a;rw[C]at a;simp only[Option.bind_some]at a;split at a
  .rename_i c z m M;cases a;exact⟨z,m,M⟩
  .cases a
 obtain⟨z,m,b⟩:=b;refine⟨.ro l g 0 (l.map WX) (λh=>h) bA (λu O=>?_) (E0.1 b).1 (λj u N=>?_) (λi x v A J=>?_),o,z,m,b,E⟩
 .obtain⟨x,A,rfl⟩:=A8.1 O;have:=B0.1 w x A;cases x<;>first|rfl|cases this
 .have:=World.var?_cell C a j;rw[Nat.zero_add,this,<-N,<-I];simp
 .rw[B2,A]at J;cases J;have:=B0.1 w x (C0 A);cases x with
  |int k n=>exact .int k n
  |str s=>exact .str s
  |_=>cases this
end Go.Eng
namespace Go.Proofs.YtepoffhhiddlkaaGreatDoor.crA
open Go.Eng
theorem gl{W:World}(h:laidMetH prog Rows.typingMeaningRow.laid W):zI W (λ_=>False):=by
 have h:laidMet prog Rows.typingMeaningRow.laid W:=h;obtain⟨ps,⟨g1,t1,H,U,p1,q1,k,A,s,b,⟨g2,t2,I,V,p2,q2,l,B,u,c,⟨g3,t3,J,X,p3,q3,m,C,v,d,⟨g4,t4,K,Y,p4,q4,o,D,w,e,⟨g5,t5,L,Z,p5,q5,n5,y5,v5,Q,⟨g6,t6,M,f6,p6,q6,n6,y6,v6,S,⟨g7,t7,N,f7,p7,q7,p,E,x,f,⟨g8,t8,O,f8,p8,q8,q,F,y,i,⟨g9,t9,P,f9,p9,q9,r,G,z,j,_,_⟩,_⟩,_⟩,_⟩,_⟩,_⟩,_⟩,_⟩,_⟩,_⟩:=h;intro n cs a
 match n,a with
 |0,a=>cases a;exact qR (n:=4) (g:=0) (t:=204) (by kernel_rfl) (by kernel_rfl) p E x f (by kernel_rfl) (by kernel_rfl)
 |1,a=>cases a;exact qR (n:=4) (g:=1) (t:=229) (by kernel_rfl) (by kernel_rfl) m C v d (by kernel_rfl) (by kernel_rfl)
 |2,a=>cases a;exact qR (n:=4) (g:=2) (t:=264) (by kernel_rfl) (by kernel_rfl) r G z j (by kernel_rfl) (by kernel_rfl)
 |3,a=>cases a
 |4,a=>cases a
 |5,a=>cases a;exact qR (n:=4) (g:=5) (t:=311) (by kernel_rfl) (by kernel_rfl) q F y i (by kernel_rfl) (by kernel_rfl)
 |6,a=>cases a
 |7,a=>cases a
 |8,a=>cases a;exact qR (n:=4) (g:=8) (t:=329) (by kernel_rfl) (by kernel_rfl) o D w e (by kernel_rfl) (by kernel_rfl)
 |9,a=>cases a;exact qR (n:=4) (g:=9) (t:=99) (by kernel_rfl) (by kernel_rfl) k A s b (by kernel_rfl) (by kernel_rfl)
 |10,a=>cases a;exact qR (n:=4) (g:=10) (t:=92) (by kernel_rfl) (by kernel_rfl) l B u c (by kernel_rfl) (by kernel_rfl)
 |n+11,a=>cases a
abbrev rangeS:ByteArray:={data:= #[118,97,108,117,101,32,111,117,116,32,111,102,32,114,97,110,103,101]}
abbrev syntaxS:ByteArray:={data:= #[105,110,118,97,108,105,100,32,115,121,110,116,97,120]}
noncomputable def low:Nat:=(World.holding prog default ⟨#[],#[],[]⟩).heap.size
noncomputable def held(g:Nat)(cs:Array Value):Array Value:=match g with
 |6=> #[.iface 338 (.pointer (some ⟨low+1,0,none⟩))]
 |7=> #[.iface 338 (.pointer (some ⟨low,0,none⟩))]
 |g=>match globD g with
  |some ds=>(ds.map WX).toArray
  |none=>cs
noncomputable def laidObj(h:Array Obj)(g:Nat):Array Obj:=h.modify g λ
 | .cells cs t frozen=>.cells (held g cs) t frozen
 |o=>o
noncomputable def laidWorld(os:Os):World:=
 let w0:=World.holding prog os ⟨#[.cells #[.string rangeS] 340,.cells #[.string syntaxS] 340],#[],[]⟩
 {w0 with heap:=(A4 11).foldl laidObj w0.heap}
theorem laidWorld_met(b:Os)(a:Array Value):laidMet prog Rows.typingMeaningRow.laid ((laidWorld b).forCall (λ_ _=>0) ⟨#[],a,[]⟩).memory:=
 laidMet_of_run' 8 (by kernel_rfl) (by kernel_rfl)
end Go.Proofs.YtepoffhhiddlkaaGreatDoor.crA
