/- Part 11 of the proof. No condition. -/
import Derived.Test.YtepoffhhiddlkaaGreatDoorMJ
import Derived.Test.YtepoffhhiddlkaaGreatDoorRows
import Derived.ChangeSame
import Derived.Lib.LaidTab
open Go.Proofs
open Go.Proofs.Tryz
set_option linter.unusedVariables false
set_option linter.unusedSimpArgs false
set_option maxRecDepth 20000
set_option maxHeartbeats 4000000
open List renaming length_append→A0,take_of_length_le→A1,length_cons→A2,map→A3,getD_eq_getElem?_getD→A4,take→A5,getElem?_eq_getElem→A6,length_nil→A7,length_take→A8,mem_singleton→A9,mem_append→B0,mem_of_getElem?→B1,take_succ_eq_append_getElem→B2,map_take→B3,eraseIdx_eq_take_drop_succ→B4,eq_nil_of_length_eq_zero→B5,length_set→B6,length_map→B7,getElem?_map→B8,take_take→C1,length_drop→C2,getElem_mem→C3,not_mem_nil→C4,all_eq_true→C5,map_append→C6,mem_cons→C8,length_pos_iff→C9,mem_map→D1,getElem?_zip_eq_some→D3,take_length→D5,length_eraseIdx_le→D6,append_assoc→D7,flatten_cons→D8,range→E0,replicate→E1,drop_zero→E2,drop_drop→E3,map_cons→E5,drop→E6
open Nat renaming zero_le→C0,le_trans→D0,le_refl→D4,min_eq_left→D9,lt_irrefl→E4,min_self→E7,succ_mul→E8
open Int renaming toNat_natCast→B9
open Array renaming getElem?_eq_some_iff→D2
open Bool renaming and_eq_true→C7
open Prod renaming fst→E9
namespace Go.Eng
section
attribute[local simp] aR bJ bF aO aL aX aP
attribute[local simp] kH.cond Nd.d_eq nd_t nd_dr nd_td ndsD aQ
theorem Zb{n:Int}(b:0<=n)(c:n<4):(chgEmpty.map DV.str)[n.toNat]?.getD default=.str (chgEmpty.getD n.toNat []):=by
 have a:n.toNat<chgEmpty.length:=by show _<4;omega
 rw[B8,A6 a];simp[A4,a]
theorem Zc{n:Int}(b:0<=n)(c:n<26):(chgWords.map DV.str)[n.toNat]?.getD default=.str (chgWords.getD n.toNat []):=by
 have a:n.toNat<chgWords.length:=by show _<26;omega
 rw[B8,A6 a];simp[A4,a]
theorem Lm(k:Nat):(chgWords.getD k []).length<=17:=by
 rw[A4];cases e:chgWords[k]? with
 |none=>simp
 |some w=>exact(by decide:∀w∈chgWords,w.length<=17) w (B1 e)
theorem Ln(k:Nat):(chgEmpty.getD k []).length<=3:=by
 rw[A4];cases e:chgEmpty[k]? with
 |none=>simp
 |some w=>exact(by decide:∀w∈chgEmpty,w.length<=3) w (B1 e)
theorem Zd(y:Int):IntKind.u8.wrap y=y.emod 256:=by
 unfold IntKind.wrap;simp[IntKind.bits,IntKind.signed];rfl
def NZ(s w:bC)(a b c:Int)(p q:Nat):bC:=
 if c=0 then s.take p++s.drop q
 else if c=1 then s.take q++32::s.drop p
 else if c=2 then s.take p++32::(w++32::s.drop q)
 else if c=3 then s.take p
 else if c=4 then s.take p++w++32::s.drop p
 else s.set (bS a s.length).toNat (UInt8.ofNat (b.emod 256).toNat)
theorem Ze{s:bC}{a how b:Int}(h:(scanS s).1=[]):changedS s a how b=s++chgEmpty.getD (bS b 4).toNat []:=by
 unfold changedS;rw[h]
theorem Xg{s:bC}{T:List Tk}{a how b:Int}{t:Tk}{p q:Nat}(h:(scanS s).1=T)(d:T≠[])(c:T[(bS a T.length).toNat]? =some t)(g:t.at_=p)(i:tokE t=q):
 changedS s a how b=NZ s (chgWords.getD (bS b 26).toNat []) a b (bS how 6) p q:=by
 unfold changedS;cases e:T with
 |nil=>exact absurd e d
 |cons x r=>
  subst e;rw[h];have f:(x::r).getD (bS a ((r.length+1:Nat):Int)).toNat default=t:=by
   rw[A4];have c:(x::r)[(bS a ((r.length+1:Nat):Int)).toNat]? =some t:=c;rw[c];rfl
  simp only[f,g,i,B9];rfl
theorem Zf(s:bC)(a c b:Int):(changedS s a c b).length<=2*s.length+40:=by
 unfold changedS;split
 .have:=Ln (bS b 4).toNat;rw[A0];omega
 .have d:=Lm (bS b 26).toNat;simp only[];generalize chgWords.getD (bS b 26).toNat []=w at d;split
  .simp only[A0,A8,C2];omega
  .split
   .simp only[A0,A8,C2,A2];omega
   .split
    .simp only[A0,A8,C2,A2];omega
    .split
     .simp only[A8];omega
     .split
      .simp only[A0,A8,C2,A2];omega
      .rw[B6];omega
theorem Lo(s:bC)(a c b:Int)(hs:s.length<=900000000)(G: -9223372036854775808<=a/\a<=9223372036854775807)(Q: -9223372036854775808<=c/\c<=9223372036854775807)(H: -9223372036854775808<=b/\b<=9223372036854775807):Ok prog 148 [.str s,aI a,aI c,aI b] ⟨.d (.str (changedS s a c b)),true⟩:=by
 refine bT func148 rfl ntmps148 results148 λw0 X I=>?_;obtain⟨T,g⟩:∃T,(scanS s).1=T:=⟨_,rfl⟩;have K:∀t∈T,InT s t:=λt ht=>JZ (g▸ht);have a2:T.length<=s.length:=by rw[<-g];exact nR _ _ _
 have P:=dO b 4 bK;have h:=dO b 26 bK;have a6:=dO c 6 bK;have r4:=eS b 4 H.1 H.2 bK;have O:=eS b 26 H.1 H.2 bK;have r6:=eS c 6 Q.1 Q.2 bK;apply aD;simp;apply aF;have E:=Ka s aE;rw[g]at E;refine bG (og 16 (.plain ⟨.tup [.d (.sl (T.map Tk.r)),.d (aI (scanS s).2)],true⟩)) ?_;simp[bM];refine⟨E,?_⟩;apply aF;apply bE;simp;refine⟨λF=>?_,λF=>?_⟩
 .have D:(scanS s).1=[]:=by rw[g];first|exact F|exact B5 aE
  apply aF;have o:=Zb P.1 P.2;have r:=Ln (bS b 4).toNat;obtain⟨z,J⟩:∃z,chgEmpty.getD (bS b 4).toNat []=z:=⟨_,rfl⟩;rw[J]at o r;simp[chgEmpty]at o;refine bG (og 25 (.plain ⟨.d (aI (bS b 4)),true⟩)) ?_;simp[o];refine⟨⟨⟨⟨⟨bK,r4⟩,aE⟩,aE⟩,aE⟩,?_⟩;apply aH;simp;rw[Ze D,J]
 .have C:T≠[]:=λe=>by rw[e]at F;simp at F
  have W:0<T.length:=C9.2 C;have aT:=dO a (T.length:Int) aE;have rT:=eS a (T.length:Int) G.1 G.2 aE;obtain⟨j,S⟩:∃j:Nat,bS a (T.length:Int)=(j:Int):=⟨(bS a (T.length:Int)).toNat,aE⟩;have B:j<T.length:=aE;obtain⟨t,N⟩:∃t,T[j]=t:=⟨_,rfl⟩;have v:T[j]? =some t:=by rw[A6 B,N]
  obtain⟨p,u,a0,a1⟩:=K t (B1 v);obtain⟨q,Y⟩:∃q:Nat,q=p+t.text.length:=⟨_,rfl⟩;have L:tokE t=q:=by unfold tokE;rw[u,Y];simp
  have M:(p:Int)+(t.text.length:Int)=(q:Int):=by rw[Y];simp
  have V:p<=s.length:=aE;have Z:q<=s.length:=aE;have d:=Xg (a:=a) (how:=c) (b:=b) g C (by rw[S,B9];exact v) u L;apply aG;simp;refine dH (og 33 (.plain ⟨.d (aI (j:Int)),true⟩)) ?_;simp[v,Tk.r,u,M];refine⟨⟨by simpa [S]using rT,B⟩,?_⟩;apply aF;have o:=Zc h.1 h.2;have r:=Lm (bS b 26).toNat;obtain⟨z,J⟩:∃z,chgWords.getD (bS b 26).toNat []=z:=⟨_,rfl⟩;rw[J]at o r d;simp[chgWords]at o;refine bG (og 38 (.plain ⟨.d (aI (bS b 26)),true⟩)) ?_;simp[o];refine⟨⟨⟨⟨bK,O⟩,h⟩,h.2⟩,?_⟩;apply aF;refine dH (og 42 (.plain ⟨.d (aI (bS c 6)),true⟩)) ?_;simp;refine⟨r6,?_⟩;apply aW;apply bE;simp;refine⟨λn=>?_,λn=>?_⟩
  .apply aF;refine fD (oE [0,12,11] [(11,11)] bK bK (by simp[I])) ?_;simp;refine fF.rd [] [] (λ_=>none) ?_;simp;refine⟨by(repeat' with_reducible apply And.intro)<;>first|omega|decide,?_⟩;apply aH;simp;rw[d];unfold NZ;rw[if_pos n]
  .apply bE;simp;refine⟨λA=>?_,λA=>?_⟩
   .apply aF;refine fD (oE [0,12,11] [(11,11)] bK bK (by simp[I])) ?_;simp;refine fF.rd [] [] (λ_=>none) ?_;simp;refine⟨by(repeat' with_reducible apply And.intro)<;>first|omega|decide,?_⟩;apply aH;simp;rw[d];unfold NZ;rw[if_neg n,if_pos A]
   .apply bE;simp;refine⟨λf=>?_,λf=>?_⟩
    .apply aF;refine fD (oE [0,12,11] [(11,11)] bK bK (by simp[I])) ?_;simp;refine fF.rd [] [] (λ_=>none) ?_;simp;refine⟨by(repeat' with_reducible apply And.intro)<;>first|omega|decide,?_⟩;apply aH;simp;rw[d];unfold NZ;rw[if_neg n,if_neg A,if_pos f]
    .apply bE;simp;refine⟨λi=>?_,λi=>?_⟩
     .apply aD;simp;refine⟨by(repeat' with_reducible apply And.intro)<;>first|omega|decide,?_⟩;apply aH;simp;rw[d];unfold NZ;rw[if_neg n,if_neg A,if_neg f,if_pos i]
     .apply bE;simp;refine⟨λl=>?_,λl=>?_⟩
      .apply aF;refine fD (oE [0,12,11] [(11,11)] bK bK (by simp[I])) ?_;simp;refine fF.rd [] [] (λ_=>none) ?_;simp;refine⟨by(repeat' with_reducible apply And.intro)<;>first|omega|decide,?_⟩;apply aH;simp;rw[d];unfold NZ;rw[if_neg n,if_neg A,if_neg f,if_neg i,if_pos l];simp
      .apply aG;simp;have aS:=dO a (s.length:Int) aE;have rS:=eS a (s.length:Int) G.1 G.2 aE;obtain⟨m,U⟩:∃m:Nat,bS a (s.length:Int)=(m:Int):=⟨(bS a (s.length:Int)).toNat,aE⟩;rw[U]at rS;refine JB hT iY iY iY iY (λw=>cQ (w:=w) hT (t:=5) rfl) rfl rfl rfl rfl rfl rfl rfl rfl rfl rfl rfl rfl rfl rfl rfl rfl rfl rfl rfl rfl rfl rfl rfl rfl rfl rfl rfl rfl rfl rfl rfl rfl rfl rfl rfl rfl rfl rfl rfl rfl rfl rfl rfl rfl rfl (s:=s) (x:=a) (y:=b) (k:=m) bB bB bB aE rS ?_;apply aH;simp;rw[d];unfold NZ;rw[if_neg n,if_neg A,if_neg f,if_neg i,if_neg l,U,Zd];rfl
end
theorem xH{α:Type}{p:α->Prop}{l:List α}{d:α}(h:∀x∈l,p x){k:Nat}(a:k<l.length):p (l.getD k d):=by
 rw[A4,A6 a];exact h _ (C3 a)
theorem nV(L:List Int)(i:Nat):wholeB (callM L i) true=true:=by
 have h:=cC L i 8 bK;exact xH (p:=λw=>wholeB w true=true) (by decide:∀w∈callL,wholeB w true=true) (show(eA L i 8).toNat<8 by omega)
theorem Hs(L:List Int)(i:Nat):wholeB (ownM L i) false=true:=by
 have h:=cC L i 4 bK;exact xH (p:=λw=>wholeB w false=true) (by decide:∀w∈ownL,wholeB w false=true) (show(eA L i 4).toNat<4 by omega)
theorem xI{k:Int}{t:bC}{n:Int}{a:List Nd}(h:0<=k/\k<=6):0<=(Nd.mk k t n a).kind/\(Nd.mk k t n a).kind<=6:=h
theorem fU{k:Int}{t:bC}{n:Int}(a:0<=k/\k<37)(c:shapedK k []=true)(b:loAt k<=n/\n<=hiAt k)(d:textB k t=true):rightN (.mk k t n [])=true:=
 right_mk.2 ⟨a.1,a.2,c,b.1,b.2,d,λx e=>by cases e⟩
theorem xJ(L:List Int)(i:Nat):rightN (.mk 33 (ownM L i) 0 [])=true:=fU bK rfl bK (Hs L i)
theorem pA(L:List Int)(i:Nat):rightN (placeM L i).1=true/\isPlaceK (placeM L i).1.kind=true:=by
 unfold placeM;split
 .exact⟨fU bK rfl bK (nV L (i+1)),rfl⟩
 .exact⟨fU bK rfl bK (JF (nV L (i+1)) (nV L (i+2))),rfl⟩
theorem CR(L:List Int):∀(d i:Nat),rightN (valueM L d i).1=true/\isExprK (valueM L d i).1.kind=true:=λd=>by
 induction d with
 |zero=>
  intro i;obtain⟨k,_,c⟩:=gJ L 0 i;have c:=c rfl;by_cases a:dG L 0 i=0\/dG L 0 i=1
  .rw[jX a];have j:=cC L (i+1) 6 bK;exact⟨fU bK rfl (xH (p:=λn:Int=>loAt 32<=n/\n<=hiAt 32) (by decide:∀n∈numsM,loAt 32<=n/\n<=hiAt 32) (show(eA L (i+1) 6).toNat<6 by omega)) rfl,rfl⟩
  .by_cases b:dG L 0 i=2
   .rw[jY b];exact⟨xJ L (i+1),rfl⟩
   .by_cases f:dG L 0 i=3\/dG L 0 i=4
    .rw[gE f];exact⟨(pA L (i+1)).1,qR (pA L (i+1)).2⟩
    .rw[iE aE];exact⟨fU bK rfl bK rfl,rfl⟩
 |succ e ih=>
  intro i;obtain⟨k,l,_⟩:=gJ L (e+1) i;by_cases a:dG L (e+1) i=0\/dG L (e+1) i=1
  .rw[jX a];have j:=cC L (i+1) 6 bK;exact⟨fU bK rfl (xH (p:=λn:Int=>loAt 32<=n/\n<=hiAt 32) (by decide:∀n∈numsM,loAt 32<=n/\n<=hiAt 32) (show(eA L (i+1) 6).toNat<6 by omega)) rfl,rfl⟩
  .by_cases b:dG L (e+1) i=2
   .rw[jY b];exact⟨xJ L (i+1),rfl⟩
   .by_cases g:dG L (e+1) i=3\/dG L (e+1) i=4
    .rw[gE g];exact⟨(pA L (i+1)).1,qR (pA L (i+1)).2⟩
    .by_cases h:dG L (e+1) i=5
     .rw[iE h];exact⟨fU bK rfl bK rfl,rfl⟩
     .rw[tC aE];exact BD aE aE (ih (i+1)) (ih (valueM L e (i+1)).2)
theorem jZ{k:Int}{t:bC}{n:Int}{a:List Nd}(f:9<=k/\k<=25)(c:textB k t=true)(b:loAt k<=n/\n<=hiAt k)(d:shapedK k a=true)(e:∀x∈a,rightN x=true):
 rightN (.mk k t n a)=true/\isStmtK (Nd.mk k t n a).kind=true:=⟨right_mk.2 ⟨aE,aE,d,b.1,b.2,c,e⟩,isStmtK_iff.2 f⟩
theorem Xh{x:Nd}(h:rightN x=true):∀y∈[x],rightN y=true:=λy a=>by rw[A9.1 a];exact h
theorem Fv{L:List Int}{d i:Nat}{a:Nat->Nd×Nat}(h:0<d->∀j,rightN (a j).1=true/\isBlockK (a j).1.kind=true):rightN (oneB L d a i).1=true/\isStmtK (oneB L d a i).1.kind=true:=by
 obtain⟨k,s⟩:∃k,Nl L d i=k:=⟨_,rfl⟩;obtain⟨A,B,z⟩:=uF s;rw[gM s];have n:=λj=>CR L 1 j;have e:=λj=>CR L 2 j;have v:=pA L (i+1);have l:=nV L (i+1);have m:=Hs L (i+1);unfold wK;split
 .rename_i q;subst q;exact jZ bK m bK (by simp[shapedK,kidsB,(e (i+1+1)).2]) (Xh (e (i+1+1)).1)
 split
 .rename_i q;subst q;refine jZ bK rfl bK (by simp[shapedK,kidsB,v.2,(e (placeM L (i+1)).2).2]) λy c=>?_;simp only[C8,C4,or_false]at c;rcases c with rfl|rfl
  .exact v.1
  .exact(e _).1
 split
 .rename_i q;have h:=h (z q);have f:=n (i+1);have g:=h (valueM L 1 (i+1)).2;have o:=h ((a (valueM L 1 (i+1)).2).2+1);have u:∀y∈[(valueM L 1 (i+1)).1,(a (valueM L 1 (i+1)).2).1],rightN y=true:=λy c=>by
   simp only[C8,C4,or_false]at c;rcases c with rfl|rfl
   .exact f.1
   .exact g.1
  have w:∀y∈[(valueM L 1 (i+1)).1,(a (valueM L 1 (i+1)).2).1,(a ((a (valueM L 1 (i+1)).2).2+1)).1],rightN y=true:=λy c=>by
   simp only[C8,C4,or_false]at c;rcases c with rfl|rfl|rfl
   .exact f.1
   .exact g.1
   .exact o.1
  split
  .rename_i q2;subst q2;split
   .exact jZ bK rfl bK (by simp[shapedK,kidsB,f.2,g.2,o.2]) w
   .exact jZ bK rfl bK (by simp[shapedK,kidsB,f.2,g.2]) u
  .rename_i q2;have q3:k=12:=aE;subst q3;exact jZ bK rfl bK (by simp[shapedK,kidsB,f.2,g.2]) u
 split
 .rename_i q;rcases q with rfl|rfl|rfl|rfl<;>exact jZ bK l bK rfl λx b=>by cases b
 split
 .rename_i q;rcases q with rfl|rfl<;>exact jZ bK l bK (by simp[shapedK,kidsB,(n (i+1+1)).2]) (Xh (n (i+1+1)).1)
 split
 .rename_i q;rcases q with rfl|rfl<;>exact jZ bK l bK rfl (Xh (xJ L (i+1+1)))
 split
 .rename_i q;subst q;have t:=cC L (((i+1:Nat):Int)+1) 5 bK;have p:loAt 19=2:=rfl;have r:hiAt 19=6:=rfl;exact jZ bK m aE rfl λx b=>by cases b
 split
 .rename_i q;subst q;exact jZ bK m bK rfl λx b=>by cases b
 split
 .rename_i q;subst q;have t:=cC L ((i+1:Nat):Int) 9 bK;have p:loAt 21=1:=rfl;have r:hiAt 21=9:=rfl;exact jZ bK rfl aE rfl λx b=>by cases b
 split
 .rename_i q;subst q;have t:=cC L ((i+1:Nat):Int) 99 bK;have p:loAt 25=1:=rfl;have r:hiAt 25=99:=rfl;exact jZ bK rfl aE rfl λx b=>by cases b
 .have q:k=24:=aE;subst q;exact jZ bK rfl bK (by simp[shapedK,kidsB,(e (i+1)).2]) (Xh (e (i+1)).1)
theorem CS{L:List Int}{c:Nat->Nd×Nat}(h:∀j,rightN (c j).1=true/\isStmtK (c j).1.kind=true):∀(m:Nat) (b:List Nd) (j:Nat),(∀x∈b,rightN x=true/\isStmtK x.kind=true)->∀x∈(somesM L c m b j).1,rightN x=true/\isStmtK x.kind=true
 |0,b,j,hk=>by simpa [somesM]using hk
 |m+1,b,j,hk=>by
  unfold somesM;split
  .exact hk
  .refine CS h m _ _ λx a=>?_;rcases B0.1 a with a|a
   .exact hk x a
   .rw[A9.1 a];exact h j
theorem Oa{L:List Int}{a:Nat->Nd×Nat}(h:∀j,rightN (a j).1=true/\isStmtK (a j).1.kind=true)(i:Nat):rightN (someM L a i).1=true/\isBlockK (someM L a i).1.kind=true:=
 ⟨wB (CS h _ [] _ λx b=>by cases b),rfl⟩
theorem Ht(L:List Int):∀d i,rightN (oneM L d i).1=true/\isStmtK (oneM L d i).1.kind=true
 |0,i=>by rw[oneM];exact Fv λh=>absurd h (E4 0)
 |d+1,i=>by rw[oneM];exact Fv λ_ j=>Oa (Ht L d) j
theorem Fw(L:List Int):∀(m:Nat) (b:List Nd) (j:Nat),(∀x∈b,rightN x=true/\isStmtK x.kind=true)->∀x∈bodyM L m b j,rightN x=true/\isStmtK x.kind=true
 |0,b,j,hk=>by simpa [bodyM]using hk
 |m+1,b,j,hk=>by
  unfold bodyM;split
  .exact hk
  .refine Fw L m _ _ λx a=>?_;rcases B0.1 a with a|a
   .exact hk x a
   .rw[A9.1 a];exact Ht L 2 j
theorem xK(L:List Int):∀c,∀x∈itemsM L c,rightN x=true/\isItemK x.kind=true
 |0,x,a=>by cases a
 |c+1,x,a=>by
  rw[itemsM]at a;rcases B0.1 a with a|a
  .exact xK L c x a
  .rw[A9.1 a];have e:=cC L (4+2*c) 1999 bK;have b:loAt 7= -999:=rfl;have d:hiAt 7=999:=rfl;exact⟨fU bK rfl aE (nV L (3+2*c)),rfl⟩
theorem Aq(l:List Int):rightN (treeS l)=true/\0<=(treeS l).kind/\(treeS l).kind<=6:=by
 unfold treeS;generalize l.take 48=L;have b:=nV L 1;have h:=cC L 0 10 bK;have a:=xH (p:=λn:Int=>0<=n/\n<=6) (d:=0) (by decide:∀n∈treeKinds,0<=n/\n<=6) (show(eA L 0 10).toNat<10 by omega);unfold treeB;simp only[];generalize treeKinds.getD (eA L 0 10).toNat 0=k at a;split
 .rename_i q;subst q;have g:=cC L 2 1999 bK;have c:loAt 0= -999:=rfl;have e:hiAt 0=999:=rfl;exact⟨fU bK rfl aE b,xI bK⟩
 split
 .rename_i q;subst q;have g:=cC L 2 4 bK;have c:loAt 2=0:=rfl;have e:hiAt 2=3:=rfl;exact⟨fU bK rfl aE b,xI bK⟩
 split
 .rename_i q;subst q;exact⟨right_mk.2 ⟨bK,bK,C5.2 λx a=>(xK L _ x a).2,bK,bK,b,λx a=>(xK L _ x a).1⟩,xI bK⟩
 split
 .rename_i q;have f:rightN (.mk 8 [] 0 (bodyM L L.length [] 2))=true:=wB (Fw L _ [] 2 λx a=>by cases a);rcases q with rfl|rfl<;>exact⟨right_mk.2 ⟨bK,bK,rfl,bK,bK,b,Xh f⟩,xI bK⟩
 .have q:k=3\/k=4:=aE;rcases q with rfl|rfl<;>exact⟨fU bK rfl bK b,xI bK⟩
theorem Fx(l:List Int):MC (treeS l):=BF (Aq l).1 (Aq l).2.1 (Aq l).2.2
section
attribute[local simp] aR bJ bF aO aL aX aP
attribute[local simp] kH.cond Nd.d_eq nd_t nd_dr nd_td ndsD aQ
theorem SY{x:Nd}(h:MC x):(textT x).length<=40*weighN x+40:=by
 obtain⟨_,h⟩:=h;have d:=weighN_eq x;have l:=sW x.kind;have j:=cH x.n;have k:=qT x.kids;unfold textT;simp only[];split
 .rename_i q;split
  .rename_i b a;have e:jH b:=by
    rcases h with⟨_,c,g,f⟩|⟨z,_⟩|⟨z,_⟩|⟨z,_⟩|⟨z,_⟩
    .rw[g]at a;have a:[c]=[b]:=a;injection a with a _
     rw[<-a];exact f
    all_goals omega
   have i:=(eT b).2 e;rw[a]at d;simp only[weighL]at d;simp only[A0,A2];omega
  .exact C0 _
 .split
  .simp only[A0,A2,A7];omega
  .split
   .simp only[A0,A2,A7];omega
   .split
    .simp only[A0,A2,A7];omega
    .simp only[A0,A2,A7];omega
theorem SZ(l:List Int):(textT (treeS l)).length<=40000040:=by
 have:=SY (Fx l);have:=EU l;omega
end
section
attribute[local simp] aR bJ bF aO aL aX aP
attribute[local simp] kH.cond Nd.d_eq nd_t nd_dr nd_td ndsD aQ bL bN
def Lp(l:List Int):Df:=⟨(treeS l).text,textT (treeS l)⟩
theorem Lq(l:List Int)(e:Kt l):Ok prog 79 [.sl (l.map aI)] ⟨.d (Lp l).d,true⟩:=by
 refine Cx func79 rfl ntmps79 results79 λg X f=>?_;obtain⟨x,a⟩:∃x,treeS l=x:=⟨_,rfl⟩;obtain⟨s,d⟩:∃s,textT x=s:=⟨_,rfl⟩;have c:=VQ l e;have b:=Vl x (by rw[<-a];exact Fx l) (by have:=EU l;rw[a]at this;omega);rw[a]at c;rw[d]at b;simp at c b;apply aD;simp;refine dH (og 5 (.plain ⟨.d x.d,false⟩)) ?_;simp;refine⟨c,?_⟩;apply aF;refine fF.rd [[9],[9]] [[],[],[],[9],[],[2]] (og 9 (.plain ⟨.d (.str s),true⟩)) ?_;simp;refine⟨b,?_⟩;apply aH;simp[Lp,a,d,Df.d]
theorem Xi(k i v:Nat)(b:k<14)(a:i<3):(gG k i v).length<=6:=(Li b a).len
theorem Lr(l:List Int)(s:Kt l):Ok prog 77 [.sl (l.map aI)] ⟨.own 2 ((Ap l).map Df.d),true⟩:=by
 refine bT func77 rfl ntmps77 results77 λV X p=>?_;have L:=IG l 0 3 bK;have J:=JI l 0 3 s bK;have N:(zE l:Int)=1+eA l 0 3:=by unfold zE;omega
 have E:=IH l;apply aD;simp;apply aD;simp;apply aD;simp;apply eP;simp;apply aW;refine aZ (ι:=Nat) (λi=>bA [(0,.d (.sl (l.map aI))),(3,.ow 3 0 (mO l i).1.length),(4,.d (.bool (mO l i).2)),(5,.d (aI (i:Nat)))]) (λi=>aK [(3,.row false 2 ((mO l i).1.map Df.d))]) (λi=>i<=zE l) (λi=>zE l-i) 0 (aA p [0,3,4,5] [(3,3)] (by simp[mO]) (by simp[mO])) (C0 _) λi H=>?_;apply aF;refine dH (og 9 (.plain ⟨.d (aI (eA l 0 3)),true⟩)) ?_;simp;refine⟨⟨by simpa using J,aE⟩,?_⟩;apply aM;simp;refine⟨λD=>?_,λD=>?_⟩
 .have O:i<zE l:=aE;have C:=IG l (1+i) 4096 bK;have A:=JI l (1+i) 4096 s bK;obtain⟨n,y⟩:∃n:Nat,eA l (1+i) 4096=(n:Int):=⟨(eA l (1+i) 4096).toNat,aE⟩;rw[y]at A C;have b:(n:Int).tmod 14=((n%14:Nat):Int):=rfl;have d:(n:Int).tdiv 14=((n / 14:Nat):Int):=rfl;obtain⟨k,x⟩:∃k:Nat,n%14=k:=⟨_,rfl⟩;obtain⟨v,z⟩:∃v:Nat,n / 14=v:=⟨_,rfl⟩;have f:k<14:=aE;rw[x]at b;rw[z]at d;obtain⟨c,g⟩:∃c,mO l i=c:=⟨_,rfl⟩;obtain⟨P,r⟩:∃P,gG k i v=P:=⟨_,rfl⟩;have B:=Ld k i v f aE aE;rw[r]at B;have S:P.length<=6:=by rw[<-r];exact Xi k i v f aE
  have U:c.1.length<=19:=by
   have h:=(Fu l i aE).len;have F:(mO l i).2.toNat<=1:=Bool.toNat_le _;rw[g]at h F;omega
  have a:mO l (i+1)=if k=9/\c.2=false then(c.1++P++[fV],true)else(c.1++P,c.2):=by
   rw[BZ,g];unfold SV;simp only[y,B9,x,z,r]
  rw[g];apply aG;simp;refine bH (ι:=Unit) (λu=>bA [(0,.d (.sl (l.map aI))),(3,.ow 3 0 (mO l (i+1)).1.length),(4,.d (.bool (mO l (i+1)).2)),(5,.d (aI (i:Nat)))]) (λu=>aK [(3,.row false 2 ((mO l (i+1)).1.map Df.d))]) (λu=>True) ?_ λu G=>?_
  .apply aW;refine dH (og 17 (.plain ⟨.d (aI (n:Int)),true⟩)) ?_;simp;refine⟨⟨aE,by simpa using A⟩,?_⟩;refine dH (og 24 (.plain ⟨.own 2 (P.map Df.d),true⟩)) ?_;simp[b,d];refine⟨⟨⟨aE,by simpa using B⟩,aE⟩,?_⟩;apply aD;simp[b];apply aM;simp;refine⟨λw q=>?_,λw=>?_⟩
   .rw[if_pos ⟨aE,q⟩]at a;apply aD;simp;refine⟨aE,?_⟩;apply aJ;simp;exact(aA p [0,3,4,5] [(36,3)] (by simp[a,Nat.add_assoc]) (by simp[a,fV,Df.d,A1 (show(A3 Df.d c.1++A3 Df.d P).length<=c.1.length+P.length by simp)]))
   .rw[if_neg (λh=>by have:=w aE;rw[h.2]at this;cases this)]at a;apply aG;simp;exact(aA p [0,3,4,5] [(25,3)] (by simp[a]) (by simp[a]))
  .apply aJ;simp;refine⟨aE,?_⟩;refine On.mk (i+1) (aA p [0,3,4,5] [(3,3)]) ?_ ?_
   .omega
   .omega
 .apply bP;simp;apply aF;have e:i=zE l:=aE;subst e;have M:=IG l 4 64 bK;have I:=JI l 4 64 s bK;have Q:=Ll l;have t:=Fr (mO l (zE l)).1 (eA l 4 64) aE aE aE;obtain⟨T,o⟩:∃T,mU (mO l (zE l)).1 (eA l 4 64)=T:=⟨_,rfl⟩;rw[o]at t;obtain⟨j,m⟩:∃j,(mO l (zE l)).1=j:=⟨_,rfl⟩;rw[m]at t;have K:A5 j.length (A3 Df.d j)=A3 Df.d j:=A1 (by rw[B7];exact D4 _);refine bG (λ|39=>some<| .plain ⟨.d (aI (eA l 4 64)),true⟩|40=>some<| .plain ⟨.own 2 (T.map Df.d),true⟩|_=>none) ?_;simp[m,K];refine⟨⟨by simpa using I,by simpa using t⟩,?_⟩;apply aH;simp[Ap,o]
def spN:List bC:=[[],[120,48],[116,48],[122,111,111],[105,102]]
def spW:List bC:=[[108,111,99,107],[102,105,108,101],[114,101,99],[112,114,111,99],[116,101,115,116]]
def spT:List bC:=[[59],[59],[32,123,32,97,32,61,32,49,59,32,99,32,61,32,50,59,32,125],[32,123,32,125],[32,123,32,125]]
def spZ:List bC:=[[99,97,108,108,32,122,59],[103,111,32,122,59],[99,97,108,108,32,122,122,59]]
def spA:List bC:=[[97],[98]]
def spC:List bC:=[[97],[98],[99]]
theorem Xj:∀w∈spN,w.length<=60:=bK
theorem Xk:∀w∈spW,w.length<=60:=bK
theorem Xl:∀w∈spT,w.length<=60:=bK
theorem Xm:∀w∈spZ,w.length<=60:=bK
theorem Xn:∀w∈spA,w.length<=60:=bK
theorem Xo:∀w∈spC,w.length<=60:=bK
def vD(j:Nat):Df:=⟨[118]++itoaS (j:Int),[118,97,114,32,118]++itoaS (j:Int)++[32,61,32,49,59]⟩
def tK(l:List Df)(m:Nat):List Df:=l++(E0 (m-l.length)).map λj=>vD (l.length+j)
def Fy(l:List Df)(how by_ c:Int)(k:Nat)(x:Df):List Df:=
 if c=0 then l.set k ⟨spN.getD (bS (by_.tdiv 3) 5).toNat [],x.text⟩
 else if c=1\/c=2 then l.set k ⟨x.name,changedS x.text (by_.tdiv 3) (how.tdiv 11) by_⟩
 else if c=3 then l.eraseIdx k
 else if c=4 then l++[x]
 else if c=5 then l.set k ⟨x.name,spW.getD (bS (by_.tdiv 3) 5).toNat []++[32]++x.name++spT.getD (bS (by_.tdiv 3) 5).toNat []⟩
 else if c=6 then l++[⟨[122,111,111],[112,114,111,99,32,122,111,111,32,123,32,99,97,108,108,32]++x.name++[59,32,103,111,32,122,111,111,59,32,125]⟩]
 else if c=7 then l++[⟨[122],[112,114,111,99,32,122,32,123,32,99,97,108,108,32,122,122,59,32,125]⟩,⟨[122,122],[112,114,111,99,32,122,122,32,123,32]++spZ.getD (bS by_ 3).toNat []++[32,125]⟩]
 else if c=8 then l++[⟨[103],[114,101,99,32,103,32,123,32,97,32,61,32,49,59,32]++spA.getD (bS by_ 2).toNat []++[32,61,32,50,59,32,125]⟩,⟨[119],[112,114,111,99,32,119,32,123,32,103,46]++spC.getD (bS (by_.tdiv 2) 3).toNat []++[32,61,32,49,59,32,125]⟩]
 else if c=9 then tK l (23+(bS by_ 3).toNat)
 else l.set k ⟨x.name,spacedS x.text [by_,by_.tdiv 3,by_.tdiv 7,how,by_.tdiv 2,1,2]⟩
def gU(l:List Df)(how by_:Int):List Df:=
 if l=[]then [Lp [how,by_]]else Fy l how by_ (bS how 11) (bS by_ l.length).toNat (l.getD (bS by_ l.length).toNat default)
structure mY(n m:Nat)(l:List Df):Prop where
 len:l.length<=n
 each:∀d∈l,d.name.length<=m/\d.text.length<=m
theorem mY.set{n m:Nat}{l:List Df}(h:mY n m l){k:Nat}{x:Df}(b:x.name.length<=m/\x.text.length<=m):mY n m (l.set k x):=
 ⟨by rw[B6];exact h.len,λd a=>(List.mem_or_eq_of_mem_set a).elim (h.each d) λe=>e▸b⟩
theorem mY.app{n c m:Nat}{l b:List Df}(h:mY n m l)(a:mY c m b):mY (n+c) m (l++b):=
 ⟨by rw[A0];have:=h.len;have:=a.len;omega,λd e=>(B0.1 e).elim (h.each d) (a.each d)⟩
theorem mY.mono{n e m c:Nat}{l:List Df}(h:mY n m l)(f:n<=e)(b:m<=c):mY e c l:=
 ⟨D0 h.len f,λd a=>⟨D0 (h.each d a).1 b,D0 (h.each d a).2 b⟩⟩
theorem Ob{l m:List Df}(h:Is m (tK l m.length))(a:l.length<=m.length):Is (m++[vD m.length]) (tK l (m++[vD m.length]).length):=by
 have h:m=tK l m.length:=h;show m++[vD m.length]=_;unfold tK at h|-;rw[A0,List.length_singleton,show m.length+1-l.length=(m.length-l.length)+1 by omega,List.range_succ,C6,<-D7,<-h];simp[show l.length+(m.length-l.length)=m.length by omega]
theorem Ta{l m:List Df}{n:Nat}(h:Is m (tK l m.length))(d:l.length<=m.length)(c:n<=m.length)(b:l.length<m.length->m.length<=n):Is m (tK l n):=by
 by_cases e:l.length<m.length
 .rw[show n=m.length by have:=b e;omega];exact h
 .have h:m=tK l m.length:=h;have a:m.length=l.length:=aE;show m=_;rw[h,a];unfold tK;rw[show n-l.length=0 by omega,Nat.sub_self]
theorem Xp{b:List DV}{n k:Nat}(c:b.length=n)(a:k<n):A5 (n-1) (A5 k b++(A5 (n-(k+1)) (E6 (k+1) b)++E6 (n-1) b))=b.eraseIdx k:=by
 rw[<-D7,List.take_append_of_le_length kD,A1 kD,A1 (l:=E6 (k+1) b) kD,B4]
theorem aAD{l:List Df}{k:Nat}:(l.eraseIdx k).map Df.d=(l.map Df.d).eraseIdx k:=by
 rw[B4,B4,C6,B3,List.map_drop]
theorem yY{L:List bC}{n:Int}{w:bC}(c:0<=n)(a:n.toNat<L.length)(b:L.getD n.toNat []=w):(L.map DV.str)[n.toNat]?.getD default=.str w:=by
 rw[xE a,b]
theorem CT(l:List Df)(d a:Int)(hs:mY 100 100000000 l)(S:zC d)(v:zC a):Ok prog 78 [fT l,aI d,aI a] ⟨.own 2 ((gU l d a).map Df.d),true⟩:=by
 refine bT func78 rfl ntmps78 results78 λw0 X y=>?_;have hl:=hs.len;have o:zC (a.tdiv 3):=In (m:=2) v;have a4:zC (a.tdiv 7):=In (m:=6) v;have H:zC (a.tdiv 2):=In (m:=1) v;have B:zC (d.tdiv 11):=In (m:=10) S;unfold zC at S v o a4 H B;apply aD;simp;apply aD;simp;refine⟨aE,?_⟩;apply aF;apply bE;simp;refine⟨λZ=>?_,λZ=>?_⟩
 .have Q:l=[]:=by first|exact Z|exact B5 aE
  subst Q;have kd:=Lq [d,a] (by intro n O;simp at O;rcases O with rfl|rfl<;>assumption);obtain⟨D,hD⟩:∃D,Lp [d,a]=D:=⟨_,rfl⟩;rw[hD]at kd;have A:gU [] d a=[D]:=by unfold gU;rw[if_pos rfl,hD]
  refine dH (og 19 (.plain ⟨.d D.d,true⟩)) ?_;simp;refine⟨⟨rfl,by simpa using kd⟩,?_⟩;apply aH;simp[A]
 .have P:l≠[]:=λe=>Z (by rw[e]);have a9:0<l.length:=C9.2 P;have ak:=dO a (l.length:Int) aE;have kk:=eS a (l.length:Int) v.1 v.2 aE;obtain⟨k,hk⟩:∃k:Nat,bS a (l.length:Int)=(k:Int):=⟨(bS a (l.length:Int)).toNat,aE⟩;rw[hk]at ak kk;have j:k<l.length:=aE;obtain⟨x,E⟩:∃x,l[k]=x:=⟨_,rfl⟩;obtain⟨b0,b1⟩:=hs.each x (E▸C3 j);have a5:l.getD k default=x:=by rw[A4,A6 j,E];rfl
  have ac:=dO d 11 bK;have kc:=eS d 11 S.1 S.2 bK;obtain⟨c,hc⟩:∃c,bS d 11=c:=⟨_,rfl⟩;rw[hc]at ac kc;have A:gU l d a=Fy l d a c k x:=by unfold gU;rw[if_neg P,hk,B9,hc,a5]
  apply aG;simp;refine dH (og 24 (.plain ⟨.d (aI (k:Int)),true⟩)) ?_;simp;refine⟨kk,?_⟩;apply aD;simp[j,E];refine bH (ι:=List Df) (λr=>bA [(7,.ow 7 0 r.length)]) (λr=>aK [(7,.row false 2 (r.map Df.d))]) (λr=>Is r (Fy l d a c k x)) ?_ λr N=>?_
  .refine dH (og 31 (.plain ⟨.d (aI c),true⟩)) ?_;simp;refine⟨kc,?_⟩;apply aW;apply bE;simp;refine⟨λh8=>?_,λh8=>?_⟩
   .have q:=dO (a.tdiv 3) 5 bK;have g:=eS (a.tdiv 3) 5 o.1 o.2 bK;obtain⟨u,f⟩:∃w,spN.getD (bS (a.tdiv 3) 5).toNat []=w:=⟨_,rfl⟩;have I:u.length<=60:=by rw[<-f];exact dI Xj
    have i:=yY (L:=spN) q.1 (by show _<5;omega) f;simp[spN]at i;refine bG (og 58 (.plain ⟨.d (aI (bS (a.tdiv 3) 5)),true⟩)) ?_;simp[j,E,i];refine⟨by(repeat' with_reducible apply And.intro)<;>first|omega|with_reducible assumption|decide|simpa using g|simpa using t,?_⟩;refine XV.mk (l.set k ⟨u,x.text⟩) (aA y [7] [(12,7)] (hH:=by simp[Df.d])) ?_;have e:c=0:=aE;subst e;show l.set k ⟨u,x.text⟩=_;rw[<-f];rfl
   .refine bH (ι:=Unit) (λU=>bA [(0,.d (fT l)),(1,.d (aI d)),(2,.d (aI a)),(7,.ow 12 0 l.length),(8,.d (aI (k:Nat))),(9,.d (.str x.name)),(31,.d (aI c)),(63,.d (.bool (decide (c=1\/c=2))))]) (λU=>aK [(12,.row false 2 (l.map Df.d))]) (λU=>True) ?_ λU a8=>?_
    .apply bE;simp;refine⟨λG=>?_,λG=>?_⟩
     .apply aG;simp;exact(aA y [0,1,2,7,8,9,31,63] [(12,12)] (by simp[G]))
     .apply aJ;simp;exact(aA y [0,1,2,7,8,9,31,63] [(12,12)] (by simp[G]))
    .apply aM;simp;refine⟨λK=>?_,λK a7=>?_⟩
     .have g:=Lo x.text (a.tdiv 3) (d.tdiv 11) a aE o B v;refine bG (og 78 (.plain ⟨.d (.str (changedS x.text (a.tdiv 3) (d.tdiv 11) a)),true⟩)) ?_;simp[j,E];refine⟨by(repeat' with_reducible apply And.intro)<;>first|omega|with_reducible assumption|decide|simpa using g|simpa using t,?_⟩;refine XV.mk (l.set k ⟨x.name,changedS x.text (a.tdiv 3) (d.tdiv 11) a⟩) (aA y [7] [(12,7)] (hH:=by simp[Df.d])) ?_;rcases K with e|e<;>(subst e;rfl)
     .apply bE;simp;refine⟨λM=>?_,λM=>?_⟩
      .apply aF;refine fF.rd [] [[],[],[],[],[],[],[],[12],[6]] (λ|90=>some .inp|_=>none) ?_;simp[(show((l.length:Int)-((k:Int)+1)).toNat=l.length-(k+1)by omega),(show k+(l.length-(k+1))=l.length-1 by omega)];refine⟨aE,?_⟩;apply aH;have e:gU l d a=l.eraseIdx k:=by rw[A,M];rfl
       rw[e];have el:(l.eraseIdx k).length=l.length-1:=by rw[List.length_eraseIdx];simp[j]
       have er:=Xp (b:=l.map Df.d) (n:=l.length) bB j;simp[el];exact⟨aE,by rw[aAD];exact er⟩
      .apply bE;simp;refine⟨λV=>?_,λV=>?_⟩
       .apply aJ;simp[j,E];refine⟨aE,?_⟩;refine XV.mk (l++[x]) (aA y [7] [(99,7)] (hH:=by simp[Df.d])) ?_;have e:c=4:=aE;subst e;show l++[x]=_;rfl
       .apply bE;simp;refine⟨λW=>?_,λW=>?_⟩
        .have q:=dO (a.tdiv 3) 5 bK;have g:=eS (a.tdiv 3) 5 o.1 o.2 bK;obtain⟨u,f⟩:∃w,spW.getD (bS (a.tdiv 3) 5).toNat []=w:=⟨_,rfl⟩;have I:u.length<=60:=by rw[<-f];exact dI Xk
         have i:=yY (L:=spW) q.1 (by show _<5;omega) f;simp[spW]at i;have F:=dO (a.tdiv 3) 5 bK;have t:=eS (a.tdiv 3) 5 o.1 o.2 bK;obtain⟨J,s⟩:∃w,spT.getD (bS (a.tdiv 3) 5).toNat []=w:=⟨_,rfl⟩;have a6:J.length<=60:=by rw[<-s];exact dI Xl
         have z:=yY (L:=spT) F.1 (by show _<5;omega) s;simp[spT]at z;refine fF.rd [[104,107,113,116],[104,107,113,116],[107,113,116],[104,113],[104,113],[104,113],[113,116],[113,116],[113,116],[104,107,113,116],[113,116],[104,107,116],[104,107,113],[104,107,113],[104,113],[104],[104]] [[],[],[104],[],[],[107],[],[],[],[],[],[113],[],[],[116],[],[],[],[],[],[12]] (λ|107=>some<| .plain ⟨.d (aI (bS (a.tdiv 3) 5)),true⟩|116=>some<| .plain ⟨.d (aI (bS (a.tdiv 3) 5)),true⟩|_=>none) ?_;simp[j,E,i,z];refine⟨by(repeat' with_reducible apply And.intro)<;>first|omega|with_reducible assumption|decide|simpa using g|simpa using t,?_⟩;refine XV.mk (l.set k ⟨x.name,u++[32]++x.name++J⟩) (aA y [7] [(12,7)] (hH:=by simp[Df.d])) ?_;have e:c=5:=aE;subst e;show l.set k ⟨x.name,u++[32]++x.name++J⟩=_;rw[<-f,<-s];rfl
        .apply bE;simp;refine⟨λY=>?_,λY=>?_⟩
         .apply aJ;simp;refine⟨aE,?_⟩;refine XV.mk (l++[⟨[122,111,111],[112,114,111,99,32,122,111,111,32,123,32,99,97,108,108,32]++x.name++[59,32,103,111,32,122,111,111,59,32,125]⟩]) (aA y [7] [(130,7)] (hH:=by simp[Df.d])) ?_;have e:c=6:=aE;subst e;show l++[⟨[122,111,111],[112,114,111,99,32,122,111,111,32,123,32,99,97,108,108,32]++x.name++[59,32,103,111,32,122,111,111,59,32,125]⟩]=_;rfl
         .apply bE;simp;refine⟨λa0=>?_,λa0=>?_⟩
          .have q:=dO a 3 bK;have g:=eS a 3 v.1 v.2 bK;obtain⟨u,f⟩:∃w,spZ.getD (bS a 3).toNat []=w:=⟨_,rfl⟩;have I:u.length<=60:=by rw[<-f];exact dI Xm
           have i:=yY (L:=spZ) q.1 (by show _<3;omega) f;simp[spZ]at i;refine bG (og 137 (.plain ⟨.d (aI (bS a 3)),true⟩)) ?_;simp[i];refine⟨by(repeat' with_reducible apply And.intro)<;>first|omega|with_reducible assumption|decide|simpa using g|simpa using t,?_⟩;refine XV.mk (l++[⟨[122],[112,114,111,99,32,122,32,123,32,99,97,108,108,32,122,122,59,32,125]⟩,⟨[122,122],[112,114,111,99,32,122,122,32,123,32]++u++[32,125]⟩]) (aA y [7] [(144,7)] (hH:=by simp[Df.d])) ?_;have e:c=7:=aE;subst e;show l++[⟨[122],[112,114,111,99,32,122,32,123,32,99,97,108,108,32,122,122,59,32,125]⟩,⟨[122,122],[112,114,111,99,32,122,122,32,123,32]++u++[32,125]⟩]=_;rw[<-f];rfl
          .apply bE;simp;refine⟨λa1=>?_,λa1=>?_⟩
           .have q:=dO a 2 bK;have g:=eS a 2 v.1 v.2 bK;obtain⟨u,f⟩:∃w,spA.getD (bS a 2).toNat []=w:=⟨_,rfl⟩;have I:u.length<=60:=by rw[<-f];exact dI Xn
            have i:=yY (L:=spA) q.1 (by show _<2;omega) f;simp[spA]at i;have F:=dO (a.tdiv 2) 3 bK;have t:=eS (a.tdiv 2) 3 H.1 H.2 bK;obtain⟨J,s⟩:∃w,spC.getD (bS (a.tdiv 2) 3).toNat []=w:=⟨_,rfl⟩;have a6:J.length<=60:=by rw[<-s];exact dI Xo
            have z:=yY (L:=spC) F.1 (by show _<3;omega) s;simp[spC]at z;refine fF.rd [[148,150,156,159,165],[150,156,159],[148,156],[148,156],[156,159],[156,159],[156,159],[156,159],[156,159],[148,150,159],[148,150,156],[148,150,156],[148,156],[148],[148],[148],[148],[148]] [[],[148],[],[150],[],[],[],[],[],[156],[],[],[159],[],[],[],[],[],[165],[12,166]] (λ|150=>some<| .plain ⟨.d (aI (bS a 2)),true⟩|159=>some<| .plain ⟨.d (aI (bS (a.tdiv 2) 3)),true⟩|_=>none) ?_;simp[i,z];refine⟨by(repeat' with_reducible apply And.intro)<;>first|omega|with_reducible assumption|decide|simpa using g|simpa using t,?_⟩;refine XV.mk (l++[⟨[103],[114,101,99,32,103,32,123,32,97,32,61,32,49,59,32]++u++[32,61,32,50,59,32,125]⟩,⟨[119],[112,114,111,99,32,119,32,123,32,103,46]++J++[32,61,32,49,59,32,125]⟩]) (aA y [7] [(166,7)] (hH:=by simp[Df.d])) ?_;have e:c=8:=aE;subst e;show l++[⟨[103],[114,101,99,32,103,32,123,32,97,32,61,32,49,59,32]++u++[32,61,32,50,59,32,125]⟩,⟨[119],[112,114,111,99,32,119,32,123,32,103,46]++J++[32,61,32,49,59,32,125]⟩]=_;rw[<-f,<-s];rfl
           .apply bE;simp;refine⟨λa2=>?_,λa2=>?_⟩
            .apply aW;refine aZ (ι:=List Df) (λm=>bA [(2,.d (aI a)),(7,.ow 12 0 m.length)]) (λm=>aK [(12,.row false 2 (m.map Df.d))]) (λm=>Is m (tK l m.length)/\l.length<=m.length/\(l.length<m.length->m.length<=23+(bS a 3).toNat)/\m.length<=100) (λm=>30-m.length) l (aA y [2,7] [(12,12)]) (⟨by unfold tK Is;simp,D4 _,λh=>absurd h (E4 _),hl⟩) λm p=>?_;apply fE;have aw:=dO a 3 bK;have g:=eS a 3 v.1 v.2 bK;refine bG (og 172 (.plain ⟨.d (aI (bS a 3)),true⟩)) ?_;simp;refine⟨⟨g,aE⟩,?_⟩;apply aM;simp;refine⟨λa3=>?_,λa3=>?_⟩
             .apply aG;simp;apply aW;have kd:=tJ (m.length:Int) aE aE;have il:=cH (m.length:Int);refine bG (λ|178=>some<| .plain ⟨.d (.str (itoaS (m.length:Int))),true⟩|182=>some<| .plain ⟨.d (.str (itoaS (m.length:Int))),true⟩|_=>none) ?_;simp;refine⟨by(repeat' with_reducible apply And.intro)<;>first|omega|with_reducible assumption,?_⟩;refine On.mk (m++[vD m.length]) (aA y [2,7] [(187,12)] (hH:=by simp[vD,Df.d])) ?_ ?_
              .exact⟨Ob p.1 p.2.1,kD,λ_=>kD,kD⟩
              .simp;omega
             .apply bP;simp;refine XV.mk (m) (aA y [7] [(12,7)] (hH:=by simp[Df.d])) ?_;have e:c=9:=aE;subst e;exact Ta p.1 p.2.1 aE p.2.2.1
            .have g:=NX x.text [a,a.tdiv 3,a.tdiv 7,d,a.tdiv 2,1,2] aE (by intro n O;simp at O;rcases O with rfl|rfl|rfl|rfl|rfl|rfl|rfl<;>omega);obtain⟨sp,C⟩:∃w,spacedS x.text [a,a.tdiv 3,a.tdiv 7,d,a.tdiv 2,1,2]=w:=⟨_,rfl⟩;rw[C]at g;simp at g;refine bG (og 48 (.plain ⟨.d (.str sp),true⟩)) ?_;simp[j,E];refine⟨by(repeat' with_reducible apply And.intro)<;>first|omega|with_reducible assumption|decide|simpa using g|simpa using t,?_⟩;refine XV.mk (l.set k ⟨x.name,sp⟩) (aA y [7] [(12,7)] (hH:=by simp[Df.d])) ?_;have e:c=10:=aE;subst e;show l.set k ⟨x.name,sp⟩=_;rw[<-C];rfl
  .apply aD;simp;apply aH;have e:r=gU l d a:=(show r=_ from N).trans A.symm;have tk:A5 r.length (A3 Df.d r)=A3 Df.d r:=A1 (by rw[B7];exact D4 _);simp[<-e,tk]
def uW:List Df:=[⟨[97],[118,97,114,32,97,32,61,32,48,59]⟩,⟨[103],[114,101,99,32,103,32,123,32,110,32,61,32,49,59,32,125]⟩,⟨[112],[112,114,111,99,32,112,32,123,32,97,32,61,32,103,46,110,59,32,125]⟩,
 ⟨[113],[112,114,111,99,32,113,32,123,32,99,97,108,108,32,112,59,32,103,111,32,113,59,32,125]⟩,⟨[116],[116,101,115,116,32,116,32,123,32,99,97,108,108,32,112,59,32,99,104,101,99,107,32,97,32,61,61,32,49,59,32,125]⟩]
def Zs(t:bC):List Df:=[uW[0],uW[1],⟨[112],t⟩,uW[3],uW[4]]
theorem Fz:Ok prog 94 [] ⟨.own 2 (uW.map Df.d),true⟩:=by
 refine bT func94 rfl ntmps94 results94 λb X a=>?_;apply aD;simp;apply aD;simp;refine⟨bK,?_⟩;apply aH;simp[uW,Df.d]
theorem II(t:bC):Ok prog 95 [.str t] ⟨.own 2 ((Zs t).map Df.d),true⟩:=by
 refine bT func95 rfl ntmps95 results95 λb X a=>?_;apply aD;simp;refine dH (og 4 (.plain ⟨.own 2 (uW.map Df.d),true⟩)) ?_;simp;refine⟨Fz,?_⟩;apply aD;simp;refine⟨⟨bK,bK⟩,?_⟩;apply aD;simp;apply aH;simp[Zs,uW,Df.d]
end
set_option maxRecDepth 100000
theorem aAE:chkR uW=(5,0):=bK
theorem Xq:usesR uW [112]=([[97],[103]],0):=bK
theorem Xr:usesR uW [116]=([[97],[112]],0):=bK
theorem Xs:testsR uW=[[116]]:=bK
theorem Xt:sliceR uW [116]=([uW[0],uW[1],uW[2],uW[4]],0):=bK
theorem Zg:chkR (Zs [112,114,111,99,32,112,32,123,32,97,32,61,32,103,46,109,59,32,125])=(2,6):=bK
theorem Zh:chkR (Zs [112,114,111,99,32,112,32,123,32,97,32,61,32,116,59,32,125])=(2,12):=bK
theorem Zi:chkR (Zs [112,114,111,99,32,112,32,123,32,99,97,108,108,32,113,59,32,125])=(2,13):=bK
theorem Zj:chkR [uW[0],uW[2],uW[3],uW[4]]=(1,6):=bK
theorem Zk:Bk (bV [⟨[97],[118,97,114,32,97,61,48,32,59]⟩]) (bV [uW[0]])=true:=bK
section
attribute[local simp] aR bJ bF aO aL aX aP
attribute[local simp] kH.cond Nd.d_eq nd_t nd_dr nd_td ndsD aQ iX
theorem mQ(a b:List bC):Ok prog 35 [qO a,qO b] ⟨.d (.bool (decide (a=b))),true⟩:=by
 refine bT func35 rfl ntmps35 results35 λl X k=>?_;refine fF.len (t:=0) rfl λd=>?_;simp at d;apply aD;simp;apply aF;apply bE;simp;refine⟨λj=>?_,λj=>?_⟩
 .apply aD;simp;apply aH;simp;exact λe=>j (by rw[e])
 .apply aG;simp;apply eP;simp;apply aW;refine aZ (ι:=Nat) (λi=>bA [(0,.d (qO a)),(1,.d (qO b)),(5,.d (aI i))]) (λi=>aK []) (λi=>i<=a.length/\a.take i=b.take i) (λi=>a.length-i) 0 (aA k [0,1,5] []) bB λi c=>?_;apply aF;apply bE;simp;refine⟨λf=>?_,λf=>?_⟩
  .apply aG;simp;apply eG;apply aF;refine fF.rd [] [] (λ_=>none) ?_;simp[f,show i<b.length by omega];apply aM;simp;refine⟨λh=>?_,λh=>?_⟩
   .apply aD;simp;apply aH;simp;intro e;subst e;simp at h
   .apply aG;simp;apply aJ;simp;refine⟨aE,?_⟩;refine On.mk (i+1) (aA k [0,1,5] []) ?_ ?_
    .exact⟨f,HS c.2 f aE (by simpa using h)⟩
    .omega
  .apply bP;simp;apply aD;simp;apply aH;simp;have e:i=a.length:=aE;have:=c.2;rw[e,D5]at this;have g:a.length=b.length:=aE;rw[this,g,D5]
end
section
attribute[local simp] aR bJ bF aO aL aX aP
attribute[local simp] kH.cond Nd.d_eq nd_t nd_dr nd_td ndsD aQ bL bN
theorem xL{l:List Df}{a b:Int}(h:chkR l=(a,b)):Ok prog 34 [fT l] ⟨.tup [.d (aI a),.d (aI b)],true⟩:=by
 have k:=Ff l;rw[show(mD l).2=(a,b) from(chk_eq l).trans h]at k;exact k
theorem Tb:Ok prog 31 [] ⟨.d (.bool true),true⟩:=by
 refine bT func31 rfl ntmps31 results31 λm X l=>?_;apply aD;simp;refine dH (og 19 (.plain ⟨.own 2 (uW.map Df.d),true⟩)) ?_;simp;refine⟨Fz,?_⟩;refine dH (og 22 (.plain ⟨.tup [.d (aI 5),.d (aI 0)],true⟩)) ?_;simp[bM];refine⟨by simpa using xL aAE,?_⟩;apply aF;have k:=Dr uW [112];rw[uses_eq,Xq]at k;refine bG (og 27 (.plain ⟨.tup [.own 1 ([[97],[103]].map .str),.d (aI 0)],true⟩)) ?_;simp[bM];refine⟨by simpa using k,?_⟩;apply aF;have d:=Dr uW [116];rw[uses_eq,Xr]at d;refine bG (og 32 (.plain ⟨.tup [.own 1 ([[97],[112]].map .str),.d (aI 0)],true⟩)) ?_;simp[bM];refine⟨by simpa using d,?_⟩;apply aF;have c:=Slice_ok uW [116] bK;rw[slice_eq,Xt]at c;obtain⟨b,a⟩:∃b,[uW[0],uW[1],uW[2],uW[4]]=b:=⟨_,rfl⟩;rw[a]at c;refine bG (og 37 (.plain ⟨.tup [.own 2 (b.map Df.d),.d (aI 0)],true⟩)) ?_;simp[bM];refine⟨by simpa using c,?_⟩;refine dH (λ|41=>some<| .plain ⟨.own 2 ((Zs [112,114,111,99,32,112,32,123,32,97,32,61,32,103,46,109,59,32,125]).map Df.d),true⟩|42=>some<| .plain ⟨.tup [.d (aI 2),.d (aI 6)],true⟩|_=>none) ?_;simp[bM];refine⟨⟨II _,by simpa using xL Zg⟩,?_⟩;refine dH (λ|46=>some<| .plain ⟨.own 2 ((Zs [112,114,111,99,32,112,32,123,32,97,32,61,32,116,59,32,125]).map Df.d),true⟩|47=>some<| .plain ⟨.tup [.d (aI 2),.d (aI 12)],true⟩|_=>none) ?_;simp[bM];refine⟨⟨II _,by simpa using xL Zh⟩,?_⟩;refine dH (λ|51=>some<| .plain ⟨.own 2 ((Zs [112,114,111,99,32,112,32,123,32,99,97,108,108,32,113,59,32,125]).map Df.d),true⟩|52=>some<| .plain ⟨.tup [.d (aI 2),.d (aI 13)],true⟩|_=>none) ?_;simp[bM];refine⟨⟨II _,by simpa using xL Zi⟩,?_⟩;apply aF;refine fF.rd [[60],[56],[56],[56],[56],[],[56,60,61],[56,60,61]] [[56],[],[],[],[60],[56,61],[],[],[61,64],[65]] (og 65 (.plain ⟨.tup [.d (aI 1),.d (aI 6)],true⟩)) ?_;simp[bM,uW,Df.d];refine⟨by simpa [uW,Df.d]using xL Zj,?_⟩;apply aF;apply bE;simp;apply aG;simp;apply aF;have e:=Fi uW;rw[tests_eq,Xs]at e;have g:=mQ [[116]] [[116]]
 have h:=mQ [[97],[103]] [[97],[103]];have i:=mQ [[97],[112]] [[97],[112]];simp[uW,Df.d]at e;simp at g h i;refine bG (λ|119=>some<| .plain ⟨.own 1 [.str [116]],true⟩|121=>some<| .plain ⟨.d (.bool true),true⟩|125=>some<| .plain ⟨.d (.bool true),true⟩|130=>some<| .plain ⟨.d (.bool true),true⟩|_=>none) ?_;simp;refine⟨by(repeat' with_reducible apply And.intro)<;>first|with_reducible assumption|decide,?_⟩;apply aF;have j:=RSameDefs_ok b b (by rw[<-a];decide);have f:=Hd [⟨[97],[118,97,114,32,97,61,48,32,59]⟩] [uW[0]] bK bK;rw[Zk]at f;simp[<-a,uW,Df.d]at j f;refine fF.rd [[],[],[147],[],[],[],[],[],[],[],[],[],[],[],[],[],[],[],[],[],[],[152],[152]] [[],[],[],[],[],[],[],[],[],[],[],[],[],[],[],[147],[148],[],[],[],[152],[],[],[155]] (λ|148=>some<| .plain ⟨.d (.bool true),true⟩|155=>some<| .plain ⟨.d (.bool true),true⟩|_=>none) ?_;simp[<-a,uW,Df.d];refine⟨by(repeat' with_reducible apply And.intro)<;>first|with_reducible assumption|decide,?_⟩;apply aH;simp
theorem Tc{x:Nd}(h:MC x):x.text.length<=(textT x).length:=by
 obtain⟨_,h⟩:=h;unfold textT;simp only[];split
 .rename_i q;split
  .simp only[A0,A2];omega
  .rename_i a;rcases h with⟨_,c,b,d⟩|⟨z,_⟩|⟨z,_⟩|⟨z,_⟩|⟨z,_⟩
   .exact absurd (by rw[b];rfl) (a c)
   all_goals omega
 .split
  .simp only[A0,A2];omega
  .split
   .simp only[A0,A2];omega
   .split<;>(simp only[A0,A2];omega)
theorem FA(l:List Int):(Lp l).name.length<=40000040/\(Lp l).text.length<=40000040:=by
 have a:=SZ l;have b:=Tc (Fx l);exact⟨by show(treeS l).text.length<=40000040;omega,a⟩
theorem Oc(k i v:Nat):∀d∈gG k i v,d.name.length<=2000/\d.text.length<=4000:=by
 intro d a;unfold gG SU at a;obtain⟨r,b,rfl⟩:=D1.1 a;obtain⟨c,e,f⟩:=(xF v k).2 r b;have g:=cH (i:Int);refine⟨?_,?_⟩
 .show(r.l++itoaS (i:Int)).length<=2000;rw[A0];omega
 .show(r.w++[32]++(r.l++itoaS (i:Int))++lQ r.t i).length<=4000;simp only[A0,Hp,A2,A7];omega
theorem FB(l:List Int):∀k,∀d∈(mO l k).1,d.name.length<=2000/\d.text.length<=4000
 |0=>by simp[mO]
 |k+1=>by
  intro d a;have c:=FB l k;rw[BZ]at a;unfold SV at a;simp only at a;have b:∀d∈(mO l k).1++gG ((eA l (1+k) 4096).toNat%14) k ((eA l (1+k) 4096).toNat / 14),d.name.length<=2000/\d.text.length<=4000:=λd a=>(B0.1 a).elim (c d) (Oc _ _ _ d);split at a
  .rcases B0.1 a with a|a
   .exact b d a
   .simp at a;subst a;decide
  .exact b d a
theorem Hu(l:List Int):mY 19 4000 (Ap l):=by
 refine⟨Qo l,λd a=>?_⟩;have:=FB l (zE l) d ((Ca _ _).mem_iff.1 a);omega
theorem rY{l:List Df}{n m:Nat}(h:mY n m l)(D:1000<=m)(E:1<=n)(c a:Int):mY (n+26) (21*m+40000040) (gU l c a):=by
 unfold gU;split
 .exact⟨by show 1<=_;omega,λd b=>by simp at b;subst b;have:=FA [c,a];omega⟩
 .rename_i o;have q:0<l.length:=C9.2 o;have z:=dO a (l.length:Int) aE;obtain⟨k,w⟩:∃k:Nat,bS a (l.length:Int)=(k:Int):=⟨(bS a (l.length:Int)).toNat,aE⟩;rw[w,B9];have g:k<l.length:=aE;obtain⟨x,r⟩:∃x,l.getD k default=x:=⟨_,rfl⟩;have p:x∈l:=by rw[<-r,A4,A6 g];exact C3 g
  obtain⟨q1,q2⟩:=h.each x p;rw[r];have e:mY (n+26) (21*m+40000040) l:=h.mono aE aE;have A:=dI (k:=(bS (a.tdiv 3) 5).toNat) Xj;have B:=dI (k:=(bS (a.tdiv 3) 5).toNat) Xk;have C:=dI (k:=(bS (a.tdiv 3) 5).toNat) Xl;have s:=dI (k:=(bS a 3).toNat) Xm;have t:=dI (k:=(bS a 2).toNat) Xn;have u:=dI (k:=(bS (a.tdiv 2) 3).toNat) Xo;have f:∀i:List Df,i.length<=26->(∀d∈i,d.name.length<=21*m+40000040/\d.text.length<=21*m+40000040)->mY (n+26) (21*m+40000040) (l++i):=λi e v=>(h.mono (D4 _) aE).app ⟨e,v⟩;unfold Fy;split
  .exact e.set ⟨zF,zF⟩
  .split
   .have:=Zf x.text (a.tdiv 3) (c.tdiv 11) a;exact e.set ⟨zF,zF⟩
   .split
    .exact⟨by have:=D6 l k;have:=h.len;omega,λd b=>e.each d (List.mem_of_mem_eraseIdx b)⟩
    .split
     .exact f _ bB (λd b=>by simp at b;subst b;omega)
     .split
      .exact e.set ⟨zF,by dsimp only;simp only[A0,A2,A7];omega⟩
      .split
       .exact f _ bB (λd b=>by simp at b;subst b;simp only[A0,A2,A7];omega)
       .split
        .exact f _ bB (λd b=>by simp at b;rcases b with rfl|rfl<;>simp only[A0,A2,A7]<;>simp at s|-<;>omega)
        .split
         .exact f _ bB (λd b=>by simp at b;rcases b with rfl|rfl<;>simp only[A0,A2,A7]<;>simp at t u|-<;>omega)
         .split
          .unfold tK;have y:=dO a 3 bK;refine f _ kD (λd b=>?_);obtain⟨j,_,rfl⟩:=D1.1 b;have:=cH ((l.length+j:Nat):Int);refine⟨by show(_++itoaS ((l.length+j:Nat):Int)).length<=_;simp only[A0,A2,A7];omega,by show(_++itoaS ((l.length+j:Nat):Int)++_).length<=_;simp only[A0,A2,A7];omega⟩
          .have:=NY x.text [a,a.tdiv 3,a.tdiv 7,c,a.tdiv 2,1,2];exact e.set ⟨zF,zF⟩
def cN(m:List Int):Nat:=min 6 ((m.length-1) / 10)
def cDf(m:List Int)(j:Nat):Df:=Lp ((m.take (10*j+10)).drop (10*j))
def cL(m:List Int):List Df:=(E0 (cN m)).map (cDf m)
theorem Xu(m:List Int):(cL m).length=cN m:=by simp[cL]
theorem Zt(m:List Int):cN m<=6:=by unfold cN;omega
def uL(l m:List Int)(how by_:Int)(raw:bC):List (List Df):=
 [Ap l,gU (Ap l) how by_,gU (gU (Ap l) how by_) by_ how,cL m,Ap l++cL m,[⟨[112,48],raw.take 60⟩],[⟨[112,48],[112,114,111,99,32,112,48,32,123,32]++raw.take 60++[32,125]⟩],[]]
theorem Td(l m:List Int)(how by_:Int)(raw:bC)(J:Kt l)(K:Kt m)(A:zC how)(z:zC by_)(M:raw.length<=9223372036854775807):Ok prog 23 [.sl (l.map aI),.sl (m.map aI),aI how,aI by_,.str raw] ⟨.d (.sl ((uL l m how by_ raw).map fT)),false⟩:=by
 refine bT func23 rfl ntmps23 results23 λW X C=>?_;obtain⟨a,p⟩:∃a,Ap l=a:=⟨_,rfl⟩;obtain⟨b,e⟩:∃b,gU a how by_=b:=⟨_,rfl⟩;obtain⟨g,f⟩:∃g,gU b by_ how=g:=⟨_,rfl⟩;obtain⟨c,q⟩:∃c,cL m=c:=⟨_,rfl⟩;have d:uL l m how by_ raw=[a,b,g,c,a++c,[⟨[112,48],raw.take 60⟩],[⟨[112,48],[112,114,111,99,32,112,48,32,123,32]++raw.take 60++[32,125]⟩],[]]:=by unfold uL;rw[p,e,f,q]
 have v:mY 19 4000 a:=by rw[<-p];exact Hu l
 have w:mY 45 41000000 b:=by rw[<-e];exact(rY v bK bK how by_).mono bK bK
 have x:mY 71 1000000000 g:=by rw[<-f];exact(rY w bK bK by_ how).mono bK bK
 have U:=v.len;have V:=w.len;have N:=x.len;have E:=Lr l J;have F:=CT a how by_ (v.mono bK bK) A z;have i:=CT b by_ how (w.mono bK bK) z A;rw[p]at E;rw[e]at F;rw[f]at i;have O:c.length=cN m:=by rw[<-q,Xu]
 have S:=Zt m;obtain⟨o,h⟩:∃r,raw.take 60=r:=⟨_,rfl⟩;have k:=VR raw 60 M;rw[h]at k d;have P:o.length<=60:=by rw[<-h,A8];omega
 apply aD;simp;refine dH (og 17 (.plain ⟨.own 2 (a.map Df.d),true⟩)) ?_;simp;refine⟨E,?_⟩;refine dH (og 21 (.plain ⟨.own 2 (b.map Df.d),true⟩)) ?_;simp[A1 (show(a.map Df.d).length<=a.length by simp)];refine⟨by simpa using F,?_⟩;apply aD;simp;apply eP;simp;apply aW;refine aZ (ι:=Nat) (λj=>bA [(1,.d (.sl (m.map aI))),(2,.d (aI how)),(3,.d (aI by_)),(4,.d (.str raw)),(11,.ow 11 0 a.length),(12,.ow 12 0 b.length),(13,.ow 13 0 j),(14,.d (aI (10*j:Nat)))]) (λj=>aK [(11,.row false 2 (a.map Df.d)),(12,.row false 2 (b.map Df.d)),(13,.row false 2 ((c.take j).map Df.d))]) (λj=>j<=cN m) (λj=>cN m-j) 0 (aA C [1,2,3,4,11,12,13,14] [(17,11),(21,12),(13,13)]) (C0 _) λj s=>?_;apply eP;simp;refine⟨aE,?_⟩;apply aM;simp;refine⟨λH I=>?_,λH=>?_⟩
 .have B:j<cN m:=by unfold cN;omega
  have G:=Lq ((m.take (10*j+10)).drop (10*j)) (λn L=>K n (List.mem_of_mem_take (List.mem_of_mem_drop L)));obtain⟨D,y⟩:∃D,Lp ((m.take (10*j+10)).drop (10*j))=D:=⟨_,rfl⟩;rw[y]at G;have u:c.take (j+1)=c.take j++[D]:=by
   rw[B2 aE];simp[<-q,cL,cDf,y]
  have t:A5 (j+1) (A3 Df.d c)=A5 j (A3 Df.d c)++[D.d]:=by rw[<-B3,u,C6,B3];rfl
  apply aG;simp;apply eG;refine bG (og 39 (.plain ⟨.d D.d,true⟩)) ?_;simp[(show(10*(j:Int)).toNat=10*j by omega),(show(10*(j:Int)+10).toNat=10*j+10 by omega)];refine⟨by(repeat' with_reducible apply And.intro)<;>first|omega|rfl|simpa using G,?_⟩;apply aJ;simp;refine⟨aE,?_⟩;refine On.mk (j+1) (aA C [1,2,3,4,11,12,13,14] [(11,11),(12,12),(41,13)] (by simp[show(10*(j:Int)+10)=10*((j:Int)+1)by omega]) (by simp[t,C1,Df.d])) ?_ ?_
  .omega
  .omega
 .apply bP;simp;apply aF;have B:j=c.length:=by rw[O];unfold cN at s|-;omega
  subst B;have Q:A5 c.length (A3 Df.d c)=A3 Df.d c:=A1 (by rw[B7];exact D4 _);refine bG (og 43 (.plain ⟨.d (.str o),true⟩)) ?_;simp;refine⟨k,?_⟩;refine dH (og 49 (.plain ⟨.own 2 (g.map Df.d),true⟩)) ?_;simp[Q,A1 (show(b.map Df.d).length<=b.length by simp),A1 (show(a.map Df.d).length<=a.length by simp)];refine⟨by(repeat' with_reducible apply And.intro)<;>first|omega|rfl|simpa using i,?_⟩;apply aH;simp[d,A1 (show(A3 Df.d a++A3 Df.d c).length<=a.length+c.length by simp)]
theorem Hv(l:List Df)(b a:Int):(gU l b a).length<=max (l.length+2) 25:=by
 unfold gU;split
 .show 1<=_;omega
 .unfold Fy;have c:=dO a 3 bK;split
  .rw[B6];omega
  .split
   .rw[B6];omega
   .split
    .have:=D6 l (bS a l.length).toNat;omega
    .split
     .simp;omega
     .split
      .rw[B6];omega
      .split
       .simp;omega
       .split
        .simp;omega
        .split
         .simp;omega
         .split
          .unfold tK;simp;omega
          .rw[B6];omega
theorem Te{l m:List Int}{b a:Int}{e:bC}:∀d∈uL l m b a e,d.length<=27:=by
 intro d c;have f:=Qo l;have g:=Hv (Ap l) b a;have h:=Hv (gU (Ap l) b a) a b;have i:=Xu m;have j:=Zt m;unfold uL at c;simp only[C8,C4,or_false]at c;rcases c with rfl|rfl|rfl|rfl|rfl|rfl|rfl|rfl
 .omega
 .omega
 .omega
 .omega
 .rw[A0];omega
 .show 1<=27;omega
 .show 1<=27;omega
 .show 0<=27;omega
theorem Xv(d:Df):(lR d).length<=max d.text.length 1024:=by
 unfold lR;split
 .omega
 .unfold printS;split
  .rename_i h;simp only[validB,C7,decide_eq_true_eq]at h;omega
  .simp
theorem Ls{l m:List Int}{c b:Int}{e:bC}:∀d∈uL l m c b e,∀x∈d,x.name.length<=1000000000/\x.text.length<=1000000000:=by
 have k:=Hu l;have n:mY 45 41000000 (gU (Ap l) c b):=(rY k bK bK c b).mono bK bK;have f:mY 71 1000000000 (gU (gU (Ap l) c b) b c):=(rY n bK bK b c).mono bK bK;have h:∀x∈cL m,x.name.length<=1000000000/\x.text.length<=1000000000:=λx a=>by
  obtain⟨j,_,rfl⟩:=D1.1 a;have:=FA ((m.take (10*j+10)).drop (10*j));unfold cDf;omega
 have g:∀x∈Ap l,x.name.length<=1000000000/\x.text.length<=1000000000:=λx a=>by have:=k.each x a;omega
 intro d i;simp only[uL,C8,C4,or_false]at i;rcases i with rfl|rfl|rfl|rfl|rfl|rfl|rfl|rfl
 .exact g
 .intro x a;have:=n.each x a;omega
 .intro x a;have:=f.each x a;omega
 .exact h
 .intro x a;exact(B0.1 a).elim (g x) (h x)
 .intro x a;rw[A9.1 a];simp;omega
 .intro x a;rw[A9.1 a];simp;omega
 .intro x a;cases a
theorem Lt{l m:List Int}{how by_:Int}{raw:bC}:∀d∈uL l m how by_ raw,IE d:=λd a=>by
 have c:=Te d a;refine⟨aE,λx b=>?_⟩;have e:=Ls d a x b;have f:=Xv x;omega
theorem Lu:∀l:List UInt8,fY (iZ l) (iZ l)=some true
 |[]=>rfl
 |x::l=>by
  have h:=Lu l;simp only[iZ,E5,pV,fY,FR,if_true]at*;rw[h];simp
theorem Hw:∀l:List UInt8,bU (E1 l.length (.int .u8)) (iZ l)=true
 |[]=>rfl
 |x::l=>by
  have h:=Hw l;simp only[A2,List.replicate_succ,iZ,E5,bU]at*;rw[h];rfl
theorem Tf(l:List Df)(r:(l.map Df.name).Nodup)(y:l.length<=1000):Ok prog 32 [fT l] ⟨.tup [.own 1 ((l.map Df.name).map .str),.d (.bool true)],true⟩:=by
 obtain⟨N,g⟩:∃N,l.map Df.name=N:=⟨_,rfl⟩;rw[g]at r|-;have u:N.length=l.length:=by rw[<-g];simp
 refine Ok.two func32 iY (c:=_) rfl ntmps32 bB results32 rfl λz X s=>?_;apply aD;simp;apply aD;simp;apply eP;simp;apply aW;refine aZ (ι:=Nat) (λi=>bA [(0,.d (fT l)),(4,.ow 4 0 i),(5,.d (aI (i:Nat)))]) (λi=>aK [(4,.row false 1 ((N.take i).map .str))]) (λi=>i<=l.length) (λi=>l.length-i) 0 (aA s [0,4,5] [(4,4)]) (C0 _) λi v=>?_;apply aF;apply bE;simp;refine⟨λt=>?_,λt=>?_⟩
 .apply aG;simp;apply eG;apply fE;have q:i<l.length:=aE;obtain⟨x,o⟩:∃x,l[i]=x:=⟨_,rfl⟩;have b:N[i]'aE=x.name:=by simp[<-g,o]
  have j:x.name∉N.take i:=by
   have p:=(nodup_take_succ (f:=N) (k:=i) aE).1 (nodup_take r (i+1));rw[b]at p;exact p.2
  have d:=Vm (N.take i) x.name;rw[decide_eq_false j]at d;have m:N.take (i+1)=N.take i++[x.name]:=by rw[B2 aE,b]
  have h:A5 (i+1) (A3 DV.str N)=A5 i (A3 DV.str N)++[.str x.name]:=by rw[<-B3,m,C6,B3];rfl
  have w:(N.take i).length=i:=by rw[A8];omega
  have a:A5 i (A5 i (A3 DV.str N))=A5 i (A3 DV.str N):=by rw[C1,E7]
  refine bG (og 18 (.plain ⟨.d (.bool false),true⟩)) ?_;simp[q,o,a];refine⟨by simpa using d,?_⟩;apply aM;simp;apply aG;simp;apply aJ;simp[q,o,a];refine⟨aE,?_⟩;apply aJ;simp;refine⟨aE,?_⟩;refine On.mk (i+1) (aA s [0,4,5] [(27,4)] (hH:=by simp[h,C1])) ?_ ?_
  .omega
  .omega
 .apply bP;simp;apply aD;simp;apply aH;have e:i=N.length:=aE;have n:A5 N.length (A3 DV.str N)=A3 DV.str N:=A1 bB;simp[e,n]
theorem Tg(l:List Df):(testsR l).length<=24:=by
 rw[<-tests_eq];unfold Fg;split
 .exact C0 _
 .refine D0 (Nat.le_of_eq (List.mergeSort_perm (gT (mD l).1) _).length_eq) ?_;rw[Fh];exact D0 (Aj _) (rB l).2.1
theorem Th(l:List Df)(k:Nat)(I:l.length<=1000)(A:k<(l.map Df.name).length)(B:((l.map Df.name).take k).Nodup)(b:(l.map Df.name)[k]∈(l.map Df.name).take k):Ok prog 32 [fT l] ⟨.tup [.own 1 (((l.map Df.name).take k).map .str),.d (.bool false)],true⟩:=by
 obtain⟨N,p⟩:∃N,l.map Df.name=N:=⟨_,rfl⟩;simp only[p]at A B b|-;have H:N.length=l.length:=by rw[<-p];simp
 refine Ok.two func32 iY (c:=_) rfl ntmps32 bB results32 rfl λJ X C=>?_;apply aD;simp;apply aD;simp;apply eP;simp;apply aW;refine aZ (ι:=Nat) (λi=>bA [(0,.d (fT l)),(4,.ow 4 0 i),(5,.d (aI (i:Nat)))]) (λi=>aK [(4,.row false 1 ((N.take i).map .str))]) (λi=>i<=k) (λi=>l.length-i) 0 (aA C [0,4,5] [(4,4)]) (C0 _) λi g=>?_;apply aF;apply bE;simp;refine⟨λG=>?_,λG=>?_⟩
 .apply aG;simp;apply eG;apply fE;have z:i<l.length:=aE;obtain⟨x,v⟩:∃x,l[i]=x:=⟨_,rfl⟩;have d:N[i]'aE=x.name:=by simp[<-p,v]
  have t:i<k->x.name∉N.take i:=λa=>by
   have y:=(nodup_take_succ (f:=N) (k:=i) aE).1 (by have:=nodup_take B (i+1);rw[C1,D9 aE]at this;exact this);rw[d]at y;exact y.2
  have m:i=k->x.name∈N.take i:=λe=>by subst e;rw[d]at b;exact b
  have w:=Vm (N.take i) x.name;have u:N.take (i+1)=N.take i++[x.name]:=by rw[B2 aE,d]
  have r:A5 (i+1) (A3 DV.str N)=A5 i (A3 DV.str N)++[.str x.name]:=by rw[<-B3,u,C6,B3];rfl
  have s:(N.take i).length=i:=by rw[A8];omega
  have j:A5 i (A5 i (A3 DV.str N))=A5 i (A3 DV.str N):=by rw[C1,E7]
  refine bG (og 18 (.plain ⟨.d (.bool (decide (x.name∈N.take i))),true⟩)) ?_;simp[z,v,j];refine⟨by simpa using w,?_⟩;apply aM;simp;refine⟨λn=>?_,λn=>?_⟩
  .have a:i=k:=Nat.le_antisymm g (Nat.le_of_not_lt λq=>t q n);apply aD;simp;apply aH;subst a;have h:min i N.length=i:=D9 aE;obtain⟨M,o⟩:∃M,N.take i=M:=⟨_,rfl⟩;have D:A5 i (A3 DV.str N)=A3 DV.str M:=by rw[<-o,B3]
   have E:A5 i (A3 DV.str M)=A3 DV.str M:=A1 (by rw[B7,<-o,A8];omega);have F:M.length=i:=by rw[<-o];exact s
   simp[h,D,E,F]
  .have a:i<k:=Nat.lt_of_le_of_ne g λq=>n (m q);apply aG;simp;apply aJ;simp[z,v,j];refine⟨aE,?_⟩;apply aJ;simp;refine⟨aE,?_⟩;refine On.mk (i+1) (aA C [0,4,5] [(27,4)] (hH:=by simp[r,C1])) ?_ ?_
   .omega
   .omega
 .apply bP;simp;apply aD;simp;apply aH;exact absurd A aE
theorem Ti(l:List Df)(a:l.length<=1000):∃M q,Ok prog 32 [fT l] ⟨.tup [.own 1 (M.map .str),.d (.bool q)],true⟩/\M.length<=l.length/\(q=true->M=l.map Df.name/\(l.map Df.name).Nodup):=by
 by_cases h:(l.map Df.name).Nodup
 .exact⟨_,true,Tf l h a,bB,λ_=>⟨rfl,h⟩⟩
 .obtain⟨k,d,b,c⟩:=SS h;exact⟨_,false,Th l k a d b c,by rw[A8,B7];omega,λe=>nomatch e⟩
theorem Xw(l m:List Int)(how by_ a:Int)(hl:Kt l)(hm:Kt m)(hh:zC how)(hb:zC by_)(ht:zC a):Ok prog 5 [.sl (l.map aI),.sl (m.map aI),aI how,aI by_,aI a] ⟨.d (.bool true),true⟩:=by
 refine bT func5 rfl ntmps5 results5 λw0 X H=>?_;unfold zC at ht;obtain⟨L,hL⟩:∃L,uL l m how by_ []=L:=⟨_,rfl⟩;have a3:L.length=8:=by rw[<-hL];rfl
 have kl:=Td l m how by_ [] hl hm hh hb bB;have J:=Lt (l:=l) (m:=m) (how:=how) (by_:=by_) (raw:=[]);rw[hL]at kl J;apply aD;simp;refine dH (og 33 (.plain ⟨.d (.sl (L.map fT)),false⟩)) ?_;simp;refine⟨kl,?_⟩;apply eP;simp;apply aW;refine aZ (ι:=Nat) (λi=>bA [(4,.d (aI a)),(11,.d (.sl (L.map fT))),(12,.d (aI (i:Nat)))]) (λi=>aK []) (λi=>i<=8) (λi=>8-i) 0 (aA H [4,11,12] []) (C0 _) λi b5=>?_;apply eP;simp[a3];apply aM;simp;refine⟨λh3=>?_,λh3=>?_⟩
 .apply aG;simp;apply eG;apply aF;have r:i<L.length:=aE;obtain⟨d,o⟩:∃d,L[i]=d:=⟨_,rfl⟩;have a6:d∈L:=by rw[<-o];exact C3 r
  have p:=J d a6;have F:=p.1;obtain⟨n,q,kn,b6,hq⟩:=Ti d aE;have a8:A5 n.length (A3 DV.str n)=A3 DV.str n:=A1 bB;refine bG (og 45 (.plain ⟨.tup [.own 1 (n.map .str),.d (.bool q)],true⟩)) ?_;simp[bM,r,o];refine⟨by simpa using kn,?_⟩;refine fD (iH.close 13 (x:=qO n) (by simp[a8])) ?_;simp;apply aF;apply bE;simp;refine⟨λh6=>?_,λh6=>?_⟩
  .apply bP;simp;apply aJ;simp;refine⟨aE,?_⟩;refine On.mk (i+1) (aA H [4,11,12] []) ?_ ?_
   .omega
   .omega
  .apply aG;simp;apply aF;have a9:q=true:=by simpa using h6
   obtain⟨hN,s⟩:=hq a9;obtain⟨b,E⟩:∃b,mU d a=b:=⟨_,rfl⟩;have c:d.Perm b:=by rw[<-E];exact(Ca d a).symm
   have kt:=Fr d a aE ht.1 ht.2;rw[E]at kt;have b4:b.length=d.length:=c.length_eq.symm;have a5:IE b:=⟨aE,λx y=>p.2 x (c.mem_iff.2 y)⟩;have a4:A5 b.length (A3 Df.d b)=A3 Df.d b:=A1 bB;refine bG (og 55 (.plain ⟨.own 2 (b.map Df.d),true⟩)) ?_;simp[r,o];refine⟨by simpa using kt,?_⟩;refine fD (iH.close 15 (x:=fT b) (by simp[a4])) ?_;simp;apply aF;have c1:=Ff d;have c2:=Ff b;rw[chk_eq]at c1 c2;have hz:=Bq c;obtain⟨Y,hY⟩:∃Y,chkR d=Y:=⟨_,rfl⟩;obtain⟨Z,hZ⟩:∃Z,chkR b=Z:=⟨_,rfl⟩;rw[hY]at c1 hz;rw[hZ]at c2 hz;refine bG (og 61 (.plain ⟨.tup [.d (aI Y.1),.d (aI Y.2)],true⟩)) ?_;simp[bM,r,o];refine⟨c1,?_⟩;refine dH (og 66 (.plain ⟨.tup [.d (aI Z.1),.d (aI Z.2)],true⟩)) ?_;simp[bM];refine⟨c2,?_⟩;apply fE;have V:=Fi d;have t2:=Fi b;rw[tests_eq]at V t2;rw[<-NI c]at t2;have b1:=Tg d;obtain⟨w,b2⟩:∃t,testsR d=t:=⟨_,rfl⟩;rw[b2]at V t2 b1;have q1:=mQ w w;have g1:=Fq d p;have g2:=Fq b a5;have s1:=Hd d b aE aE;rw[<-Ho c s,NK]at s1;have hg:ID b=ID d:=by unfold ID;rw[Ho c s]
   rw[hg]at g2;obtain⟨D,z⟩:∃D,D=ID d:=⟨_,rfl⟩;rw[<-z]at g1 g2;have k:D.length=16:=by rw[z];simp[ID,iZ,Dt]
   have a1:fY D D=some true:=(by rw[z];exact Lu _);have A:bU (E1 16 (.int .u8)) D=true:=(by rw[z,<-Dt 8 (xD (bV d))];exact Hw _);have a2:D≠[]:=λh=>by rw[h]at k;cases k
   clear z;have b0:A5 w.length (A3 DV.str w)=A3 DV.str w:=A1 bB;simp at q1;refine bG (λ|79=>some<| .plain ⟨.own 1 (w.map .str),true⟩|81=>some<| .plain ⟨.own 1 (w.map .str),true⟩|82=>some<| .plain ⟨.d (.bool true),true⟩|90=>some<| .plain ⟨.d (.agg D),true⟩|92=>some<| .plain ⟨.d (.agg D),true⟩|101=>some<| .plain ⟨.d (.bool true),true⟩|_=>none) ?_;simp[r,o,hz,b0,a1,A,a2]
   trace_state
   refine⟨by(repeat' with_reducible apply And.intro)<;>first|omega|with_reducible assumption|simpa using V|simpa using t2|simpa using q1|simpa using A|simpa using g1|simpa using g2|simpa using s1|(intros;simpa using V)|(intros;simpa using g1),?_⟩;apply aM;simp;apply aG;simp;apply aD;simp;apply aW;refine aZ (ι:=Nat) (λj=>bA [(4,.d (aI a)),(11,.d (.sl (L.map fT))),(12,.d (aI (i:Nat))),(13,.d (qO n)),(15,.d (fT b)),(20,.d (aI (j:Nat)))]) (λj=>aK []) (λj=>j<=n.length) (λj=>n.length-j) 0 (aA H [4,11,12,13,15,20] []) (C0 _) λj b3=>?_;apply aF;apply bE;simp;refine⟨λa0=>?_,λa0=>?_⟩
   .apply aG;simp;apply eG;apply aF;have G:j<n.length:=aE;obtain⟨f,g⟩:∃f,n[j]=f:=⟨_,rfl⟩;obtain⟨x,y,P⟩:∃x∈d,x.name=f:=by
     have h1:f∈d.map Df.name:=(by rw[<-hN,<-g];exact C3 G);obtain⟨x,y,e⟩:=D1.1 h1;exact⟨x,y,e⟩
    have u1:=Dr d f;have W:=Dr b f;have M:=SQ c s y;rw[P]at M;rw[uses_eq]at u1 W;rw[<-M]at W;obtain⟨U,hU⟩:∃U,usesR d f=U:=⟨_,rfl⟩;rw[hU]at u1 W;have C:A5 U.1.length (A3 DV.str U.1)=A3 DV.str U.1:=A1 bB;have l1:=Slice_ok d f aE;have Q:=Slice_ok b f aE;have u:=NJ c y;rw[P]at u;rw[slice_eq]at l1 Q;rw[<-u.2]at Q;have I:=u.1;have K:(sliceR d f).1.length<=1000000000000:=SR d f F;obtain⟨S,hS⟩:∃S,(sliceR d f).1=S:=⟨_,rfl⟩;obtain⟨v1,N⟩:∃v,(sliceR d f).2=v:=⟨_,rfl⟩;obtain⟨v2,O⟩:∃v,(sliceR b f).2=v:=⟨_,rfl⟩;rw[hS,N]at l1;rw[hS,O]at Q;rw[N,O]at I;rw[hS]at K;have B:A5 S.length (A3 Df.d S)=A3 Df.d S:=A1 bB;refine fF.rd [] [[],[],[],[],[],[],[],[],[119]] (og 119 (.plain ⟨.tup [.own 1 (U.1.map .str),.d (aI U.2)],true⟩)) ?_;simp[bM,r,o,G,g];refine⟨by simpa using u1,?_⟩;refine fD (iH.close 21 (x:=qO U.1) (by simp[C])) ?_;simp;refine dH (og 128 (.plain ⟨.tup [.own 1 (U.1.map .str),.d (aI U.2)],true⟩)) ?_;simp[bM,G,g];refine⟨by simpa using W,?_⟩;refine fD (iH.close 23 (x:=qO U.1) (by simp[C])) ?_;simp;apply aF;refine fF.rd [] [[],[],[],[],[],[],[],[],[140]] (og 140 (.plain ⟨.tup [.own 2 (S.map Df.d),.d (aI v1)],true⟩)) ?_;simp[bM,r,o,G,g];refine⟨by simpa using l1,?_⟩;refine fD (iH.close 25 (x:=fT S) (by simp[B])) ?_;simp;refine dH (og 149 (.plain ⟨.tup [.own 2 (S.map Df.d),.d (aI v2)],true⟩)) ?_;simp[bM,G,g];refine⟨by simpa using Q,?_⟩;refine fD (iH.close 27 (x:=fT S) (by simp[B])) ?_;simp;apply aF;have q2:=mQ U.1 U.1;have q3:=RSameDefs_ok S S K;simp at q2 q3;refine bG (λ|158=>some<| .plain ⟨.d (.bool true),true⟩|171=>some<| .plain ⟨.d (.bool true),true⟩|_=>none) ?_;simp[I]
    trace_state
    refine⟨by(repeat' with_reducible apply And.intro)<;>first|with_reducible assumption|simpa using q2|simpa using q3|(intros;simpa using q2)|(intros;simpa using q3),?_⟩;apply aM;simp;apply aG;simp;apply aJ;simp;refine⟨aE,?_⟩;refine On.mk (j+1) (aA H [4,11,12,13,15,20] []) ?_ ?_
    .omega
    .omega
   .apply bP;simp;apply aJ;simp;refine⟨aE,?_⟩;refine On.mk (i+1) (aA H [4,11,12] []) ?_ ?_
    .omega
    .omega
 .apply bP;simp;apply aF;have a7:=Tb;refine bG (og 174 (.plain ⟨.d (.bool true),true⟩)) ?_;simp;refine⟨a7,?_⟩;apply aH;simp
end
open Go.RowKit
def IJ(P:Program):List Field->Nat->Bool
 |[],_=>true
 |f::r,o=>f.offset==o&&IJ P r (o+P.cellsOf f.type)
def xM(P:Program):Nat->TypeId->DataW Unit->Option (List Value)
 |0,_,_=>none
 |n+1,t,d=>match P.underlying t,d with
  |some (.int _),.lit (.int k z)=>some [.int k z]
  |some .string,.lit (.string s)=>some [.string ⟨s.toArray⟩]
  |some (.array _ e),.agg ds=>match ds.mapM (xM P n e)with
   |some xs=>if xs.all (λx=>x.length==P.cellsOf e)&&xs.length*P.cellsOf e==P.cellsOf t then some xs.flatten else none
   |none=>none
  |some (.struct fs),.agg ds=>match(fs.toList.zip ds).mapM (λp=>xM P n p.1.type p.2)with
   |some xs=>if IJ P fs.toList 0&&xs.flatten.length==P.cellsOf t&&((fs.toList.zip xs).all λp=>p.2.length==P.cellsOf p.1.type)&&ds.length==fs.size then some xs.flatten else none
   |none=>none
  |_,_=>none
theorem Hx{c:Nat}:∀(b:List (List Value)) (a:List Value),a.length=b.length*c->(∀(i:Nat) (x:List Value),b[i]? =some x->(a.drop (i*c)).take c=x)->a=b.flatten
 |[],a,hl,_=>by
  have:a=[]:=B5 (by simpa using hl);simp[this]
 |x::b,a,hl,h=>by
  have d:=h 0 x rfl;simp only[Nat.zero_mul,E2]at d;have e:=Hx (c:=c) b (a.drop c) (by rw[C2,hl,A2,E8];omega) λi y f=>by
   have:=h (i+1) y (by simpa using f);rw[E3,Nat.add_comm c,<-E8];exact this
  rw[D8,<-e,<-d,List.take_append_drop]
theorem CU{P:Program}{cs:List Value}:∀(b:List Field) (a:List (List Value)) (o:Nat),IJ P b o=true->a.length=b.length->(∀(i:Nat) (f:Field) (x:List Value),b[i]? =some f->a[i]? =some x->(cs.drop f.offset).take (P.cellsOf f.type)=x/\x.length=P.cellsOf f.type)->
 (cs.drop o).take a.flatten.length=a.flatten
 |[],[],_,_,_,_=>bB
 |[],_::_,_,_,h,_=>by simp at h
 |_::_,[],_,_,h,_=>by simp at h
 |f::b,x::a,o,ho,hl,h=>by
  simp only[IJ,C7,beq_iff_eq]at ho;obtain⟨c,d⟩:=h 0 f x rfl rfl;have j:=CU b a (o+P.cellsOf f.type) ho.2 (by simpa using hl) λi g y e k=>h (i+1) g y (by simpa using e) (by simpa using k);rw[ho.1]at c;rw[D8,A0,List.take_add,d,c,E3,j]
theorem Tj{W:TypeId×Value->Unit}{P:Program}{w:World}{H:Nat}{sp:Nat->Bool}{held:Bool}:∀(n a:Nat) (t:TypeId) (E:List Value) (d:DataW Unit) (p:List MemPlace) (V:List Value),
 DataW.trod W P w H sp held a t E=some (d,p)->xM P n t d=some V->E=V:=by
 intro n;induction n with
 |zero=>intro a t E d p V _ h;cases h
 |succ n ih=>
  intro a t E d p V o g;unfold xM at g;split at g
  .rename_i k' k z B;obtain⟨m,rfl,C,_⟩:=DataW.trod_int B o;injection C with e1 e2
   injection e1 with e1
   injection e1 with e3 e4
   subst e3 e4;exact Option.some.inj g
  .rename_i s B;obtain⟨b,rfl,C,_⟩:=DataW.trod_string B o;injection C with e1 e2
   injection e1 with e1
   injection e1 with e3
   subst e3;exact Option.some.inj g
  .rename_i m e l B;cases a with
   |zero=>simp[DataW.trod]at o
   |succ a=>
    unfold DataW.trod at o;rw[B]at o;simp only at o;split at o
    .rename_i Y;obtain⟨S,hm,C⟩:=Option.map_eq_some_iff.1 o;have q:S.map (·.1)=l:=by
      have:=congrArg E9 C;simpa using this
     split at g
     .rename_i G j;split at g
      .rename_i I;simp only[C7,C5,beq_iff_eq]at I;have g:=Option.some.inj g;rw[<-g];have O:S.length=m:=by simpa using Lib.mapM_length hm
       have M:G.length=l.length:=Lib.mapM_length j;have a1:l.length=m:=by rw[<-q,B7,O]
       refine Hx (c:=P.cellsOf e) G E (by rw[Y,I.2]) λi x K=>?_;have hi:i<m:=by have:=(List.getElem?_eq_some_iff.1 K).1;omega
       obtain⟨y,U,X⟩:=Lib.mapM_at hm i i (by simp[hi]);have u:l[i]? =some y.1:=by rw[<-q,B8,U];rfl
       obtain⟨F,D,A⟩:=Lib.mapM_at j i _ u;have:F=x:=Option.some.inj (D.symm.trans K);subst this;exact ih a e _ y.1 y.2 F X A
      .cases g
     .cases g
    .cases o
  .rename_i r l B;obtain⟨S,m,rfl,C,Y,O,X⟩:=DataW.trod_struct B o;have q:S.map (·.1)=l:=by
    have:=congrArg E9 C;simpa using this.symm
   split at g
   .rename_i G j;split at g
    .rename_i I;simp only[C7,C5,beq_iff_eq]at I;obtain⟨⟨⟨c1,c2⟩,c3⟩,c4⟩:=I;have g:=Option.some.inj g;rw[<-g];have M:G.length=(r.toList.zip l).length:=Lib.mapM_length j;have a0:(r.toList.zip l).length=r.size:=by rw[List.length_zip,c4];simp
     have Q:=CU (P:=P) (cs:=E) r.toList G 0 c1 (by rw[M,a0];simp) λi f x v L=>by
      have J:r[i]? =some f:=by simpa using v
      have N:=X i f J;have hi:i<r.size:=(D2.1 J).1;obtain⟨y,U⟩:∃y,S[i]? =some y:=⟨_,A6 aE⟩;rw[U]at N;have u:l[i]? =some y.1:=by rw[<-q,B8,U];rfl
      have hz:(r.toList.zip l)[i]? =some (f,y.1):=by
       rw[D3];exact⟨v,u⟩
      obtain⟨F,D,A⟩:=Lib.mapM_at j i _ hz;have:F=x:=Option.some.inj (D.symm.trans L);subst this;refine⟨ih m f.type _ _ _ F N A,?_⟩;have Z:(r.toList.zip G)[i]? =some (f,F):=by
       rw[D3];exact⟨v,L⟩
      exact c3 _ (B1 Z)
     rw[E2,c2,<-Y,D5]at Q;exact Q
    .cases g
   .cases g
  .cases g
def Xx:DV->Value
 | .int k n=>.int k n
 | .str s=>.string ⟨s.toArray⟩
 |_=>undef
def aBj:DV->Bool
 | .int _ _=>true
 | .str _=>true
 |_=>false
theorem rE{P:Program}{W:World}{e:String}{g H:Nat}{t K:TypeId}{o:Array Value}{f n:Nat}{p:List MemPlace}{d:DataW Unit}{l:List DV}{B:TypeId×Value->Unit}{r:Nat}{Q:Nat->Bool}{held:Bool}
 (C:P.globalNamed e=some g)(G:(P.globals[g]?).map (·.type)=some t)(D:P.globalNamed e=some H)(F:(P.globals[H]?).map (·.type)=some K)(a:W.var? P e=some o)
 (L:DataW.trod B P W r Q held f K o.toList=some (d,p))(y:xM P n t d=some (l.map Xx))(w:l.all aBj=true):
 RD W (λ_=>False) (.ro l) (.pointer (some ⟨g,0,none⟩))/\∃q t m,W.heap[g]? =some (.cells q t m)/\q.size=l.length:=by
 obtain rfl:=Option.some.inj (C.symm.trans D);obtain rfl:=Option.some.inj (G.symm.trans F);have I:=Tj n f t o.toList d p _ L y;have E:o.size=l.length:=by
  have:=congrArg List.length I;simpa using this
 have b:∃z m,W.heap[g]? =some (.cells o z m):=by
  unfold World.var? at a;rw[C]at a;simp only[Option.bind_some]at a;split at a
  .rename_i c z m M;cases a;exact⟨z,m,M⟩
  .cases a
 obtain⟨z,m,b⟩:=b;refine⟨.ro l g 0 (l.map Xx) (λh=>h) bB (λu O=>?_) (D2.1 b).1 (λj u N=>?_) (λi x v A J=>?_),o,z,m,b,E⟩
 .obtain⟨x,A,rfl⟩:=D1.1 O;have:=C5.1 w x A;cases x<;>first|rfl|cases this
 .have:=World.var?_cell C a j;rw[Nat.zero_add,this,<-N,<-I];simp
 .rw[B8,A]at J;cases J;have:=C5.1 w x (B1 A);cases x with
  |int k n=>exact .int k n
  |str s=>exact .str s
  |_=>cases this
end Go.Eng
namespace Go.Proofs.YtepoffhhiddlkaaGreatDoor.crA
open Go.Eng
theorem gl{W:World}(h:laidMetH prog Rows.typingOrderRow.laid W):zM W (λ_=>False):=by
 have h:laidMet prog Rows.typingOrderRow.laid W:=h;obtain⟨ps,⟨g1,t1,H,U,p1,q1,k,A,s,b,⟨g2,t2,I,V,p2,q2,l,B,u,c,⟨g3,t3,J,X,p3,q3,m,C,v,d,⟨g4,t4,K,Y,p4,q4,o,D,w,e,⟨g5,t5,L,Z,p5,q5,n5,y5,v5,Q,⟨g6,t6,M,f6,p6,q6,n6,y6,v6,S,⟨g7,t7,N,f7,p7,q7,p,E,x,f,⟨g8,t8,O,f8,p8,q8,q,F,y,i,⟨g9,t9,P,f9,p9,q9,r,G,z,j,_,_⟩,_⟩,_⟩,_⟩,_⟩,_⟩,_⟩,_⟩,_⟩,_⟩:=h;intro n cs a
 match n,a with
 |0,a=>cases a;exact rE (n:=4) (g:=0) (t:=204) (by kernel_rfl) (by kernel_rfl) p E x f (by kernel_rfl) (by kernel_rfl)
 |1,a=>cases a;exact rE (n:=4) (g:=1) (t:=229) (by kernel_rfl) (by kernel_rfl) m C v d (by kernel_rfl) (by kernel_rfl)
 |2,a=>cases a;exact rE (n:=4) (g:=2) (t:=264) (by kernel_rfl) (by kernel_rfl) r G z j (by kernel_rfl) (by kernel_rfl)
 |3,a=>cases a
 |4,a=>cases a
 |5,a=>cases a;exact rE (n:=4) (g:=5) (t:=311) (by kernel_rfl) (by kernel_rfl) q F y i (by kernel_rfl) (by kernel_rfl)
 |6,a=>cases a
 |7,a=>cases a
 |8,a=>cases a;exact rE (n:=4) (g:=8) (t:=329) (by kernel_rfl) (by kernel_rfl) o D w e (by kernel_rfl) (by kernel_rfl)
 |9,a=>cases a;exact rE (n:=4) (g:=9) (t:=99) (by kernel_rfl) (by kernel_rfl) k A s b (by kernel_rfl) (by kernel_rfl)
 |10,a=>cases a;exact rE (n:=4) (g:=10) (t:=92) (by kernel_rfl) (by kernel_rfl) l B u c (by kernel_rfl) (by kernel_rfl)
 |n+11,a=>cases a
abbrev rangeS:ByteArray:={data:= #[118,97,108,117,101,32,111,117,116,32,111,102,32,114,97,110,103,101]}
abbrev syntaxS:ByteArray:={data:= #[105,110,118,97,108,105,100,32,115,121,110,116,97,120]}
noncomputable def low:Nat:=(World.holding prog default ⟨#[],#[],[]⟩).heap.size
noncomputable def held(g:Nat)(cs:Array Value):Array Value:=match g with
 |6=> #[.iface 338 (.pointer (some ⟨low+1,0,none⟩))]
 |7=> #[.iface 338 (.pointer (some ⟨low,0,none⟩))]
 |g=>match globD g with
  |some ds=>(ds.map Xx).toArray
  |none=>cs
noncomputable def laidObj(h:Array Obj)(g:Nat):Array Obj:=h.modify g λ
 | .cells cs t frozen=>.cells (held g cs) t frozen
 |o=>o
noncomputable def laidWorld(os:Os):World:=
 let w0:=World.holding prog os ⟨#[.cells #[.string rangeS] 340,.cells #[.string syntaxS] 340],#[],[]⟩
 {w0 with heap:=(E0 11).foldl laidObj w0.heap}
theorem laidWorld_met(b:Os)(a:Array Value):laidMet prog Rows.typingOrderRow.laid ((laidWorld b).forCall (λ_ _=>0) ⟨#[],a,[]⟩).memory:=
 laidMet_of_run' 8 (by kernel_rfl) (by kernel_rfl)
end Go.Proofs.YtepoffhhiddlkaaGreatDoor.crA
