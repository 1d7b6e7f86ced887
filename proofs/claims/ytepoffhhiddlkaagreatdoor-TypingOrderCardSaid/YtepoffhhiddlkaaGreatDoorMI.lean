/- Part 9 of the proof. No condition. -/
import Derived.Test.YtepoffhhiddlkaaGreatDoorMH
open Go.Proofs
open Go.Proofs.Tryz
set_option linter.unusedVariables false
set_option linter.unusedSimpArgs false
set_option maxRecDepth 20000
set_option maxHeartbeats 4000000
open List renaming getElem?_eq_getElem→A0,getD_eq_getElem?_getD→A1,take_succ_eq_append_getElem→A2,findIdx?_eq_some_iff_getElem→A3,take_of_length_le→A4,eq_nil_of_length_eq_zero→A5,length_append→A6,getElem_mem→A9,mem_cons_of_mem→B0,findIdx?_eq_none_iff→B1,mem_cons_self→B2,length_map→B3,mem_cons→B4,eraseIdx_eq_take_drop_succ→B5,mem_range→B6,getElem_of_mem→B7,mem_map→B8,getElem_map→C0,getElem?_append_right→C1,getElem?_append_left→C2,mem_of_find?_eq_some→C3,map_append→C5,foldl_cons→C6,length_take→C7,take_append_drop→C8,getElem?_eq_some_iff→C9,pairwise_iff_getElem→D0,map→D1,nodup_cons→D2,set_append_right→D3,length_drop→D5,drop_eq_getElem_cons→D6,map_cons→D7,mem_filter→D8,filter_cons_of_neg→D9,filter_cons_of_pos→E0,getElem?_map→E1,nodup_append→E2,take_length→E4,length_cons→E5,any_eq_true→E6,mem_of_getElem?→E7,drop_append_of_le_length→E9,take_append_of_le_length→F0,find?_some→F1,mergeSort_perm→F2,take→F3,length_eraseIdx_of_lt→F5,find?_eq_none→F6,mem_append→F9,length_filter_le→G1,length_singleton→G2,eraseIdx_sublist→G3,not_lt→G4,map_congr_left→G5,any_cons→G6,append_assoc→G8,take_sublist→H0,map_map→H1,findIdx?_map→H2,ext_getElem→H3,le_antisymm→H4,prefix_refl→H5,find?_cons→H7,nodup_nil→H9,replicate→I1,map_take→I2,map_drop→I3,map_set→I4,length→I5,range→I6
open Nat renaming le_refl→A7,add_sub_cancel_left→C4,zero_le→D4,not_lt_zero→G0,add_zero→G7,le_trans→G9
open Int renaming toNat_natCast→E3,fdiv_eq_ediv_of_nonneg→F4
open Option renaming getD_some→F8
open Bool renaming eq_false_iff→F7,not_eq_true→H6
open Classical renaming byContradiction→A8
open BitVec renaming ofInt→B9,allOnes→I0
open UInt8 renaming ofNat→E8
namespace Go.Eng
section
attribute[local simp] aR bJ bF aO aL aX aP
attribute[local simp] kH.cond Nd.d_eq nd_t nd_dr nd_td ndsD aQ bL
theorem VX{x:Int}(a:0<=x)(h:x<18446744073709551616):IntKind.u64.wrap x=x:=by
 unfold IntKind.wrap;simp[IntKind.bits,IntKind.signed];omega
theorem VY{x:Int}(a:0<=x)(h:x<9223372036854775808):IntKind.i64.wrap x=x:=by
 unfold IntKind.wrap;simp[IntKind.bits,IntKind.signed];omega
theorem Dp{x:Int}{n w:Nat}(b:x=(n:Int))(c:n<9000000000000000000)(a:n / 2=w):IntKind.i64.wrap ((IntKind.u64.wrap x).fdiv (2^min 1 IntKind.u64.bits))=(w:Int):=by
 subst b;rw[VX aE aE,show(2:Int)^min 1 IntKind.u64.bits=2 by decide,show((n:Int)).fdiv 2=((n / 2:Nat):Int)by rw[F4 _ aE];rfl,a];exact VY aE aE
theorem KE{A o t:List Df}{x:Df}{j:Nat}(a:j<=o.length):(iF A o t x j)[A.length+j]? =some x:=by
 rw[A0 (by rw[wQ];omega),Qc a]
theorem Su{A o t:List Df}{x:Df}{j:Nat}(a:j<o.length):(iF A o t x (j+1))[A.length+j]? =some o[j]:=by
 rw[A0 (by rw[wQ];omega),GW a]
theorem Sv{A o t:List Df}{x:Df}{j:Nat}(a:j<o.length):(iF A o t x j)[A.length+(j+1)]? =some o[j]:=by
 unfold iF iW;rw[C1 aE,C4,C2 kD,C1 kD,C7,show j+1-min j o.length=1 by omega,List.getElem?_cons_succ,List.getElem?_drop,G7,A0 a]
theorem Nr{A o t:List Df}{x:Df}{j:Nat}(a:j<o.length):((iF A o t x j).set (A.length+j) o[j]).set (A.length+(j+1)) x=iF A o t x (j+1):=by
 unfold iF iW;have c:o.take (j+1)=o.take j++[o[j]]:=A2 a;have d:o.drop j=o[j]::o.drop (j+1):=D6 a;have b:(o.take j).length=j:=kD;rw[c,d];rw[D3 _ _ aE,C4,D3 _ _ aE,C4];congr 1;simp only[G8,List.cons_append,List.nil_append];rw[D3 _ _ aE,b,Nat.sub_self,D3 _ _ aE,b,show j+1-j=1 by omega];rfl
def Ha(P B C S:List Df)(a m b N:Nat):Prop:=
 mE prog 227 [.ow 0 0 N,.d (aI a),.d (aI m),.d (aI b),.d (.fn 83 [])] [(0,.row false 2 ((P++(B++(C++S))).map Df.d))] [(0,.row false 2 ((P++(kV B C++S)).map Df.d))] (.tup [])
structure aAl(P B C S:List Df)(a m b N:Nat):Prop where
 hB:0<B.length
 hC:0<C.length
 sB:dT B
 sC:dT C
 ha:P.length=a
 hm:a+B.length=m
 hb:m+C.length=b
 hN:b+S.length=N
 hl:N<=1000000
theorem Ix{a b:Df}:zD a.name b.name<0↔fW a b:=Iu
theorem aA8(P B C S:List Df){a m b:Nat}(e:P.length=a)(g:a+B.length=m)(f:m+C.length=b):(∀c,∀d:c<B.length,(P++(B++(C++S)))[a+c]? =some B[c])/\∀c,∀d:c<C.length,(P++(B++(C++S)))[m+c]? =some C[c]:=by
 subst e;subst g;subst f;refine⟨λc d=>?_,λc d=>?_⟩
 .rw[C1 aE,C4,C2 d,A0 d]
 .rw[C1 aE,show P.length+B.length+c-P.length=B.length+c by omega,C1 aE,C4,C2 d,A0 d]
theorem KF{l:List Df}(h:l.length=1):∃x,l=[x]:=by
 match l,h with
 |[x],_=>exact⟨x,rfl⟩
set_option pp.maxSteps 100000 in
theorem Ns(P B C S:List Df)(a m b N:Nat)(h:aAl P B C S a m b N)(ih:∀P' B' C' S' a' m' b',aAl P' B' C' S' a' m' b' N->B'.length+C'.length<B.length+C.length->Ha P' B' C' S' a' m' b' N):mE prog 227 [.ow 0 0 N,.d (aI a),.d (aI m),.d (aI b),.d (.fn 83 [])] [(0,.row false 2 ((P++(B++(C++S))).map Df.d))] [(0,.row false 2 ((P++(kV B C++S)).map Df.d))] (.tup []):=by
 obtain⟨hB,hC,sB,sC,ha,hm,hb,hN,hl⟩:=h;obtain⟨W,Y⟩:=aA8 P B C S ha hm hb;obtain⟨L,Q⟩:∃L,P++(B++(C++S))=L:=⟨_,rfl⟩;have g8:L.length=N:=by rw[<-Q];simp only[A6];omega
 obtain⟨T,a4⟩:∃T,P++(kV B C++S)=T:=⟨_,rfl⟩;rw[Q]at W Y|-;rw[a4];refine pD func227 rfl ntmps227 results227 λw0 X F=>?_;apply eP;simp[(show(m:Int)-(a:Int)=((B.length:Nat):Int)by omega)];refine⟨aE,?_⟩;apply aM;simp;refine⟨λh0=>?_,λh0=>?_⟩
 .obtain⟨x,hx⟩:=KF (l:=B) aE;subst hx;have h6:a+1=m:=hm;have ax:=W 0 bB;rw[G7]at ax;obtain⟨kx,ex⟩:=uQ ax;have ex:L[a]=x:=ex;apply aD;simp;apply aD;simp;apply eG;refine aZ (ι:=Nat×Nat) (λ⟨p,q⟩=>bA [(0,.ow 0 0 N),(1,.d (aI a)),(2,.d (aI m)),(3,.d (aI b)),(4,.d (.fn 83 [])),(10,.d (aI (m+p))),(11,.d (aI (m+q)))]) (λ⟨p,q⟩=>aK [(0,.row false 2 (L.map Df.d))]) (λ⟨p,q⟩=>p<=q/\q<=C.length/\(p=0\/∃hk:p-1<C.length,fW C[p-1] x)/\(q=C.length\/∃hk:q<C.length,¬fW C[q] x)) (λ⟨p,q⟩=>q-p) (0,C.length) (aA F [0,1,2,3,4,10,11] [(0,0)] (by simp[show(b:Int)=(m:Int)+(C.length:Int)by omega])) (⟨D4 _,A7 _,.inl rfl,.inl rfl⟩) λ⟨p,q⟩ c4=>?_;apply aF;apply bE;simp;refine⟨λh3=>?_,λh3=>?_⟩
  .apply aG;simp;apply aW;apply aF;obtain⟨M,H,I,k⟩:=c4;obtain⟨w,hw⟩:∃w,(p+q) / 2=w:=⟨_,rfl⟩;have U:w<C.length:=aE;have aw:=Y w U;obtain⟨kw,ew⟩:=uQ aw;have G:zD C[w].name x.name<0↔fW C[w] x:=Ix;have hh:IntKind.i64.wrap ((IntKind.u64.wrap ((m:Int)+(p:Int)+((m:Int)+(q:Int)))).fdiv (2^min 1 IntKind.u64.bits))=((m+w:Nat):Int):=Dp (n:=2*m+p+q) aE aE aE;obtain⟨z,hz⟩:∃z,C[w]=z:=⟨_,rfl⟩;rw[hz]at ew G;apply aJ;simp[hh];refine⟨aE,?_⟩;apply aF;have V:=Bj z x;refine fF.rd [] [[],[],[],[],[],[],[],[],[],[49]] (og 49 (.plain ⟨.d (aI (zD z.name x.name)),true⟩)) ?_;simp[kw,ew,kx,ex,(show((m:Int)+(w:Int)).toNat=m+w by omega)];refine⟨⟨⟨aE,aE⟩,by simpa using V⟩,?_⟩;apply aM;simp;refine⟨λh5=>?_,λh5=>?_⟩
   .apply aJ;simp;refine⟨aE,?_⟩;refine On.mk (w+1,q) (aA F [0,1,2,3,4,10,11] [(0,0)] (by simp[show(m:Int)+(w:Int)+1=(m:Int)+((w:Int)+1)by omega])) ?_ ?_
    .exact⟨zF,H,.inr ⟨zF,by simpa [hz]using G.1 h5⟩,k⟩
    .dsimp only;omega
   .apply aJ;simp;refine On.mk (p,w) (aA F [0,1,2,3,4,10,11] [(0,0)]) ?_ ?_
    .exact⟨zF,zF,I,.inr ⟨U,λe=>by have:=G.2 (hz▸e);omega⟩⟩
    .dsimp only;omega
  .apply bP;simp;apply fE;obtain⟨M,H,I,k⟩:=c4;have b5:p=q:=aE;subst b5;have O:iF P C S x p=T:=by
    rw[<-a4,YJ sC H I k];rfl
   apply aJ;simp;apply aW;refine aZ (ι:=Nat×List Df) (λ⟨t,r⟩=>bA [(0,.ow 0 0 N),(1,.d (aI a)),(2,.d (aI m)),(3,.d (aI b)),(4,.d (.fn 83 [])),(10,.d (aI (m+p))),(13,.d (aI (a+t)))]) (λ⟨t,r⟩=>aK [(0,.row false 2 (r.map Df.d))]) (λ⟨t,r⟩=>t<=p/\Is r (iF P C S x t)) (λ⟨t,r⟩=>p-t) (0,L) (aA F [0,1,2,3,4,10,13] [(0,0)]) (⟨D4 _,by show _=_;rw[<-Q];simp[iF,iW]⟩) λ⟨t,r⟩ c5=>?_;apply eP;simp;refine⟨aE,?_⟩;apply aM;simp;refine⟨λh9=>?_,λh9=>?_⟩
   .apply aG;simp;apply eG;obtain⟨b6,d⟩:=c5;have d:r=iF P C S x t:=d;have h7:t<p:=aE;have q1:r[a+t]? =some x:=by have:=KE (A:=P) (o:=C) (t:=S) (x:=x) (j:=t) aE;rw[ha]at this;rw[d];exact this
    have q2:r[a+(t+1)]? =some (C[t]'aE):=by have:=Sv (A:=P) (o:=C) (t:=S) (x:=x) (j:=t) aE;rw[ha]at this;rw[d];exact this
    obtain⟨k1,e1⟩:=uQ q1;obtain⟨k2,e2⟩:=uQ q2;have f3:r.length=N:=by rw[d,wQ];omega
    refine fF.rd [[],[],[0],[0],[0]] [[],[],[],[],[],[],[],[],[],[],[],[],[],[],[],[0],[],[0]] (λ_=>none) ?_;simp[k1,k2,(show((a:Int)+(t:Int)).toNat=a+t by omega),(show((a:Int)+(t:Int)+1).toNat=a+(t+1)by omega)];refine⟨by(repeat' with_reducible apply And.intro)<;>omega,?_⟩;apply aJ;simp;refine⟨aE,?_⟩;refine On.mk (t+1,(r.set (a+t) r[a+(t+1)]).set (a+(t+1)) r[a+t]) (aA F [0,1,2,3,4,10,13] [(0,0)] (by simp[show(a:Int)+(t:Int)+1=(a:Int)+((t:Int)+1)by omega]) (by simp[I4,Df.d])) ?_ ?_
    .exact⟨zF,by
      have q:=Nr (A:=P) (o:=C) (t:=S) (x:=x) (j:=t) aE;rw[ha]at q;show _=_;dsimp only;rw[e1,e2,d];exact q⟩
    .omega
   .apply bP;simp;apply aH;obtain⟨b6,d⟩:=c5;have d:r=iF P C S x t:=d;have b4:t=p:=aE;subst b4;rw[O]at d;simp;exact aA F [] [(0,0)] (hH:=by simp[d])
 .apply aG;simp;apply eP;simp[(show(b:Int)-(m:Int)=((C.length:Nat):Int)by omega)];refine⟨aE,?_⟩;apply aM;simp;refine⟨λd6=>?_,λd6=>?_⟩
  .obtain⟨y,hy⟩:=KF (l:=C) aE;subst hy;have g9:m+1=b:=hb;have ay:=Y 0 bB;rw[G7]at ay;obtain⟨ky,ey⟩:=uQ ay;have ey:L[m]=y:=ey;apply aD;simp;apply aD;simp;apply eG;refine aZ (ι:=Nat×Nat) (λ⟨p,q⟩=>bA [(0,.ow 0 0 N),(1,.d (aI a)),(2,.d (aI m)),(3,.d (aI b)),(4,.d (.fn 83 [])),(14,.d (aI (a+p))),(15,.d (aI (a+q)))]) (λ⟨p,q⟩=>aK [(0,.row false 2 (L.map Df.d))]) (λ⟨p,q⟩=>p<=q/\q<=B.length/\(p=0\/∃hk:p-1<B.length,¬fW y B[p-1])/\(q=B.length\/∃hk:q<B.length,fW y B[q])) (λ⟨p,q⟩=>q-p) (0,B.length) (aA F [0,1,2,3,4,14,15] [(0,0)] (by simp[show(m:Int)=(a:Int)+(B.length:Int)by omega])) (⟨D4 _,A7 _,.inl rfl,.inl rfl⟩) λ⟨p,q⟩ a7=>?_;apply aF;apply bE;simp;refine⟨λd7=>?_,λd7=>?_⟩
   .apply aG;simp;apply aW;apply aF;obtain⟨M,H,I,k⟩:=a7;obtain⟨w,hw⟩:∃w,(2*a+p+q) / 2-a=w:=⟨_,rfl⟩;have U:w<B.length:=aE;have aw:=W w U;obtain⟨kw,ew⟩:=uQ aw;have G:zD y.name B[w].name<0↔fW y B[w]:=Ix;have hh:IntKind.i64.wrap ((IntKind.u64.wrap ((a:Int)+(p:Int)+((a:Int)+(q:Int)))).fdiv (2^min 1 IntKind.u64.bits))=((a+w:Nat):Int):=Dp (n:=2*a+p+q) aE aE aE;obtain⟨z,hz⟩:∃z,B[w]=z:=⟨_,rfl⟩;rw[hz]at ew G;apply aJ;simp[hh];refine⟨aE,?_⟩;apply aF;have V:=Bj y z;refine fF.rd [] [[],[],[],[],[],[],[],[],[],[101]] (og 101 (.plain ⟨.d (aI (zD y.name z.name)),true⟩)) ?_;simp[kw,ew,ky,ey,(show((a:Int)+(w:Int)).toNat=a+w by omega)];refine⟨⟨⟨aE,aE⟩,by simpa using V⟩,?_⟩;apply aM;simp;refine⟨λd8=>?_,λd8=>?_⟩
    .apply aJ;simp;refine⟨aE,?_⟩;refine On.mk (w+1,q) (aA F [0,1,2,3,4,14,15] [(0,0)] (by simp[show(a:Int)+(w:Int)+1=(a:Int)+((w:Int)+1)by omega])) ?_ ?_
     .exact⟨zF,H,.inr ⟨zF,λe=>by have:=G.2 (by simpa [hz]using e);omega⟩,k⟩
     .dsimp only;omega
    .apply aJ;simp;refine On.mk (p,w) (aA F [0,1,2,3,4,14,15] [(0,0)]) ?_ ?_
     .exact⟨zF,zF,I,.inr ⟨U,hz▸G.1 aE⟩⟩
     .dsimp only;omega
   .apply bP;simp;apply fE;obtain⟨M,H,I,k⟩:=a7;have b5:p=q:=aE;subst b5;have O:iF P B S y p=T:=by
     rw[<-a4,VV sB H I k];rfl
    apply aJ;simp;apply aW;refine aZ (ι:=Nat×List Df) (λ⟨t,r⟩=>bA [(0,.ow 0 0 N),(1,.d (aI a)),(2,.d (aI m)),(3,.d (aI b)),(4,.d (.fn 83 [])),(14,.d (aI (a+p))),(17,.d (aI (a+t)))]) (λ⟨t,r⟩=>aK [(0,.row false 2 (r.map Df.d))]) (λ⟨t,r⟩=>p<=t/\t<=B.length/\Is r (iF P B S y t)) (λ⟨t,r⟩=>t) (B.length,L) (aA F [0,1,2,3,4,14,17] [(0,0)] (by simp[show(m:Int)=(a:Int)+(B.length:Int)by omega])) (⟨H,A7 _,by show _=_;rw[<-Q];simp[iF,iW]⟩) λ⟨t,r⟩ a8=>?_;apply aF;apply bE;simp;refine⟨λd9=>?_,λd9=>?_⟩
    .apply aG;simp;apply eG;obtain⟨f5,b6,d⟩:=a8;have d:r=iF P B S y t:=d;obtain⟨j,rfl⟩:∃j,t=j+1:=⟨t-1,aE⟩;have q1:r[a+(j+1)]? =some y:=by have:=KE (A:=P) (o:=B) (t:=S) (x:=y) (j:=j+1) aE;rw[ha]at this;rw[d];exact this
     have q2:r[a+j]? =some (B[j]'aE):=by have:=Su (A:=P) (o:=B) (t:=S) (x:=y) (j:=j) aE;rw[ha]at this;rw[d];exact this
     obtain⟨k1,e1⟩:=uQ q1;obtain⟨k2,e2⟩:=uQ q2;have f3:r.length=N:=by rw[d,wQ];simp at hb;omega
     refine fF.rd [[],[],[0],[0],[0]] [[],[],[],[],[],[],[],[],[],[],[],[],[],[],[],[0],[],[0]] (λ_=>none) ?_;simp[k1,k2,(show((a:Int)+((j:Int)+1)).toNat=a+(j+1)by omega),(show((a:Int)+((j:Int)+1)- 1).toNat=a+j by omega),(show(a:Int)+((j:Int)+1)- 1=(a:Int)+(j:Int)by omega),(show((a:Int)+(j:Int)).toNat=a+j by omega)];refine⟨by(repeat' with_reducible apply And.intro)<;>omega,?_⟩;apply aJ;simp;refine⟨aE,?_⟩;refine On.mk (j,(r.set (a+(j+1)) r[a+j]).set (a+j) r[a+(j+1)]) (aA F [0,1,2,3,4,14,17] [(0,0)] (by simp[show(a:Int)+((j:Int)+1)- 1=(a:Int)+(j:Int)by omega]) (by simp[I4,Df.d])) ?_ ?_
     .exact⟨zF,zF,by
       have q:=GX (A:=P) (o:=B) (t:=S) (x:=y) (j:=j) aE;rw[ha]at q;show _=_;dsimp only;rw[e1,e2,d];exact q⟩
     .dsimp only;omega
    .apply bP;simp;apply aH;obtain⟨f5,b6,d⟩:=a8;have d:r=iF P B S y t:=d;have b4:t=p:=aE;subst b4;rw[O]at d;simp;exact aA F [] [(0,0)] (hH:=by simp[d])
  .apply aG;simp;apply aF;obtain⟨c,c6⟩:∃c,(a+b) / 2=c:=⟨_,rfl⟩;have hh:IntKind.i64.wrap ((IntKind.u64.wrap ((a:Int)+(b:Int))).fdiv (2^min 1 IntKind.u64.bits))=(c:Int):=Dp (n:=a+b) aE aE c6;obtain⟨K,g,b0,b1⟩:∃K g:Nat,(c<m->K+b=c+m/\g=c)/\(m<=c->K=a/\g=m):=by
    by_cases e:c<m
    .exact⟨c+m-b,c,λ_=>⟨aE,rfl⟩,λ_=>aE⟩
    .exact⟨a,m,λ_=>aE,λ_=>⟨rfl,rfl⟩⟩
   have e9:a<=K/\K<=g/\g<=m/\g<=c/\c+m<=K+b/\(K=a\/K+b=c+m)/\(g=m\/g=c):=by
    by_cases e:c<m
    .have:=b0 e;omega
    .have:=b1 aE;omega
   obtain⟨l1,l2,l3,l4,l5,l6,l7⟩:=e9;apply aJ;simp[hh];refine⟨aE,?_⟩;apply aD;simp;refine⟨aE,?_⟩;apply aD;simp;refine bH (ι:=Unit) (λu=>bA [(0,.ow 0 0 N),(1,.d (aI a)),(2,.d (aI m)),(3,.d (aI b)),(4,.d (.fn 83 [])),(18,.d (aI c)),(19,.d (aI (c+m))),(20,.d (aI K)),(21,.d (aI g))]) (λu=>aK [(0,.row false 2 (L.map Df.d))]) (λu=>True) ?_ λu g5=>?_
   .apply bE;simp;refine⟨λe0=>?_,λe0=>?_⟩
    .have f6:=b0 aE;apply aD;simp;refine⟨aE,?_⟩;apply aJ;simp;exact(aA F [0,1,2,3,4,18,19,20,21] [(0,0)] (by simp[show(c:Int)+(m:Int)-(b:Int)=(K:Int)by omega,show(g:Int)=(c:Int)by omega]))
    .have f6:=b1 aE;apply aD;simp;apply aJ;simp;exact(aA F [0,1,2,3,4,18,19,20,21] [(0,0)] (by simp[show(K:Int)=(a:Int)by omega,show(g:Int)=(m:Int)by omega]))
   .apply aD;simp;refine⟨aE,?_⟩;apply eG;refine aZ (ι:=Nat×Nat) (λ⟨f,J⟩=>bA [(0,.ow 0 0 N),(1,.d (aI a)),(2,.d (aI m)),(3,.d (aI b)),(4,.d (.fn 83 [])),(18,.d (aI c)),(19,.d (aI (c+m))),(20,.d (aI f)),(21,.d (aI J)),(22,.d (aI (c+m-1)))]) (λ⟨f,J⟩=>aK [(0,.row false 2 (L.map Df.d))]) (λ⟨f,J⟩=>K<=f/\f<=J/\J<=g/\(f=K\/∃(h1:c-f<C.length) (h2:f-1-a<B.length),¬fW C[c-f] B[f-1-a])/\(J=g\/∃(h1:c-1-J<C.length) (h2:J-a<B.length),fW C[c-1-J] B[J-a])) (λ⟨f,J⟩=>J-f) (K,g) (aA F [0,1,2,3,4,18,19,20,21,22] [(0,0)]) (⟨A7 _,l2,A7 _,.inl rfl,.inl rfl⟩) λ⟨f,J⟩ a9=>?_;apply aF;apply bE;simp;refine⟨λe3=>?_,λe3=>?_⟩
    .apply aG;simp;apply aW;apply aF;obtain⟨M,H,I,k,a5⟩:=a9;obtain⟨w,hw⟩:∃w,(f+J) / 2=w:=⟨_,rfl⟩;have e8:IntKind.i64.wrap ((IntKind.u64.wrap ((f:Int)+(J:Int))).fdiv (2^min 1 IntKind.u64.bits))=(w:Int):=Dp (n:=f+J) aE aE hw;have d0:c-1-w<C.length:=aE;have d1:w-a<B.length:=aE;have aC:=Y _ d0;have aB:=W _ d1;rw[show a+(w-a)=w by omega]at aB;obtain⟨kB,eB⟩:=uQ aB;obtain⟨kC,eC⟩:=uQ aC;obtain⟨z1,b7⟩:∃z,C[c-1-w]=z:=⟨_,rfl⟩;obtain⟨z2,b8⟩:∃z,B[w-a]=z:=⟨_,rfl⟩;have G:zD z1.name z2.name<0↔fW z1 z2:=Ix;rw[b7]at eC;rw[b8]at eB;apply aJ;simp[e8];refine⟨aE,?_⟩;apply aF;have V:=Bj z1 z2;refine fF.rd [] [[],[],[],[],[],[],[],[],[],[],[],[169]] (og 169 (.plain ⟨.d (aI (zD z1.name z2.name)),true⟩)) ?_;simp[kB,eB,kC,eC,(show((c:Int)+(m:Int)- 1-(w:Int)).toNat=m+(c-1-w)by omega)];refine⟨by(repeat' with_reducible apply And.intro)<;>first|omega|simpa using V,?_⟩;apply aM;simp;refine⟨λe4=>?_,λe4=>?_⟩
     .apply aJ;simp;refine⟨aE,?_⟩;refine On.mk (w+1,J) (aA F [0,1,2,3,4,18,19,20,21,22] [(0,0)]) ?_ ?_
      .exact⟨zF,zF,I,.inr ⟨zF,zF,λe=>by have:=G.2 (by rw[<-b7,<-b8];simpa [show c-(w+1)=c-1-w by omega]using e);omega⟩,a5⟩
      .dsimp only;omega
     .apply aJ;simp;refine On.mk (f,w) (aA F [0,1,2,3,4,18,19,20,21,22] [(0,0)]) ?_ ?_
      .exact⟨M,zF,zF,k,.inr ⟨d0,d1,by have:=G.1 aE;rw[<-b7,<-b8]at this;exact this⟩⟩
      .dsimp only;omega
    .apply bP;simp;apply aF;obtain⟨M,H,I,k,a5⟩:=a9;have f4:f=J:=aE;subst f4;obtain⟨Z,h4⟩:∃Z,c+m-f=Z:=⟨_,rfl⟩;obtain⟨i,hi⟩:∃i,f-a=i:=⟨_,rfl⟩;obtain⟨j,hj⟩:∃j,c-f=j:=⟨_,rfl⟩;have a6:kV B C=kV (B.take i) (C.take j)++kV (B.drop i) (C.drop j):=YK sB sC aE aE (by
      rcases k with k|⟨g1,g2,g3⟩
      .rcases l6 with l6|l6
       .exact .inl aE
       .exact .inr (.inl aE)
      .exact .inr (.inr ⟨aE,aE,by simpa [<-hi,<-hj,show f-a-1=f-1-a by omega]using g3⟩)) (by
      rcases a5 with a5|⟨g1,g2,g3⟩
      .rcases l7 with l7|l7
       .exact .inr (.inl aE)
       .exact .inl aE
      .exact .inr (.inr ⟨aE,aE,by simpa [<-hi,<-hj,show c-f-1=c-1-f by omega]using g3⟩))
     obtain⟨D,a0⟩:∃D,B.take i=D:=⟨_,rfl⟩;obtain⟨s,a1⟩:∃s,B.drop i=s:=⟨_,rfl⟩;obtain⟨v,a2⟩:∃v,C.take j=v:=⟨_,rfl⟩;obtain⟨E,a3⟩:∃E,C.drop j=E:=⟨_,rfl⟩;have e5:D++s=B:=by rw[<-a0,<-a1,C8]
     have e6:v++E=C:=(by rw[<-a2,<-a3,C8]);have h8:D.length=i:=(by rw[<-a0,C7];omega);have d2:s.length=m-f:=(by rw[<-a1,D5];omega);have d3:v.length=j:=(by rw[<-a2,C7];omega);have i0:E.length=b-Z:=(by rw[<-a3,D5];omega);have f7:dT D:=(by rw[<-a0];exact sB.take i);have f8:dT s:=(by rw[<-a1];exact sB.drop i);have d4:dT v:=(by rw[<-a2];exact sC.take j);have d5:dT E:=(by rw[<-a3];exact sC.drop j);rw[a0,a1,a2,a3]at a6;have c9:L=P++(D++(s++(v++(E++S)))):=by rw[<-Q,<-e5,<-e6];simp
     have c2:P++(kV D v++(kV s E++S))=T:=by rw[<-a4,a6];simp
     have c3:(c:Int)+(m:Int)-(f:Int)=(Z:Int):=aE;apply aJ;simp[c3];refine⟨aE,?_⟩;refine bH (ι:=Unit) (λu2=>bA [(0,.ow 0 0 N),(1,.d (aI a)),(2,.d (aI m)),(3,.d (aI b)),(4,.d (.fn 83 [])),(18,.d (aI c)),(20,.d (aI f)),(24,.d (aI Z))]) (λu2=>aK [(0,.row false 2 ((P++(D++(v++(s++(E++S))))).map Df.d))]) (λu2=>True) ?_ λu2 g6=>?_
     .apply bE;simp;refine⟨λb9 f9=>?_,λb9=>?_⟩
      .have kr:=VU (P++D) s v (E++S) f m Z N (λe=>by rw[e]at d2;simp at d2;omega) (λe=>by rw[e]at d3;simp at d3;omega) kD aE aE kD hl;have f1:P++D++(s++(v++(E++S)))=L:=by rw[c9];simp
       have f2:P++D++(v++(s++(E++S)))=P++(D++(v++(s++(E++S)))):=bB;rw[f1,f2]at kr;obtain⟨r1,b2⟩:∃r1,P++(D++(v++(s++(E++S))))=r1:=⟨_,rfl⟩;rw[b2]at kr;refine bG (oh 191 [(0,.row false 2 (r1.map Df.d))] (.tup [])) ?_;simp;refine⟨kr,?_⟩;rw[<-b2];exact(aA F [0,1,2,3,4,18,20,24] [(0,0)])
      .have f0:L=P++(D++(v++(s++(E++S)))):=by
        rw[c9];by_cases e:f<m
        .have:v=[]:=A5 (by have:=b9 aE;omega);rw[this];simp
        .have:s=[]:=A5 aE;rw[this];simp
       apply aG;simp;exact(aA F [0,1,2,3,4,18,20,24] [(0,0)] (hH:=by simp[f0]))
     .refine bH (ι:=Unit) (λu3=>bA [(0,.ow 0 0 N),(1,.d (aI a)),(2,.d (aI m)),(3,.d (aI b)),(4,.d (.fn 83 [])),(18,.d (aI c)),(20,.d (aI f)),(24,.d (aI Z))]) (λu3=>aK [(0,.row false 2 ((P++(kV D v++(s++(E++S)))).map Df.d))]) (λu3=>True) ?_ λu3 g7=>?_
      .apply bE;simp;refine⟨λc0 g0=>?_,λc0=>?_⟩
       .have k1:=ih P D v (s++(E++S)) a f c ⟨aE,aE,f7,d4,ha,aE,aE,kD,hl⟩ aE;unfold Ha at k1;obtain⟨r2,b3⟩:∃r2,P++(kV D v++(s++(E++S)))=r2:=⟨_,rfl⟩;rw[b3]at k1;simp at k1;refine bG (oh 205 [(0,.row false 2 (r2.map Df.d))] (.tup [])) ?_;simp;refine⟨k1,?_⟩;rw[<-b3];exact(aA F [0,1,2,3,4,18,20,24] [(0,0)])
       .have c7:kV D v=D++v:=by
         by_cases e:a<f
         .have:v=[]:=A5 (by have:=c0 aE;omega);rw[this];simp[Fe]
         .have:D=[]:=A5 aE;rw[this,Iw d4];rfl
        apply aG;simp;exact(aA F [0,1,2,3,4,18,20,24] [(0,0)] (hH:=by simp[c7]))
      .apply bE;simp;refine⟨λc1 g4=>?_,λc1=>?_⟩
       .have k2:=ih (P++kV D v) s E S c Z b ⟨aE,aE,f8,d5,by rw[A6,YI];omega,aE,aE,aE,hl⟩ aE;unfold Ha at k2;rw[show P++kV D v++(kV s E++S)=T by rw[<-c2];simp]at k2;simp at k2;refine bG (oh 219 [(0,.row false 2 (T.map Df.d))] (.tup [])) ?_;simp;refine⟨k2,?_⟩;exact aA F [] [(0,0)]
       .have c8:kV s E=s++E:=by
         by_cases e:c<Z
         .have:E=[]:=A5 (by have:=c1 aE;omega);rw[this];simp[Fe]
         .have:s=[]:=A5 aE;rw[this,Iw d5];rfl
        apply aG;simp;have e7:T=P++(kV D v++(s++(E++S))):=by rw[<-c2,c8];simp
        exact aA F [] [(0,0)] (hH:=by simp[e7])
end
section
attribute[local simp] aR bJ bF aO aL aX aP
attribute[local simp] kH.cond Nd.d_eq nd_t nd_dr nd_td ndsD aQ bL
theorem KG:∀(n:Nat) (P B C S:List Df) (a m b N:Nat),aAl P B C S a m b N->B.length+C.length<n->Ha P B C S a m b N
 |0,_,_,_,_,_,_,_,_,_,h=>aE
 |n+1,P,B,C,S,a,m,b,N,h,hn=>Ns P B C S a m b N h λe c d f g k i j l=>KG n e c d f g k i N j aE
theorem Nt(l:List Df)(q:20<=l.length)(I:l.length<40):mE prog 152 [.ow 0 0 l.length,.d (aI l.length),.d (.fn 83 [])] [(0,.row false 2 (l.map Df.d))] [(0,.row false 2 ((bV l).map Df.d))] (.tup []):=by
 obtain⟨A,y⟩:∃A,l.take 20=A:=⟨_,rfl⟩;obtain⟨B,G⟩:∃B,l.drop 20=B:=⟨_,rfl⟩;have b:l=A++B:=by rw[<-y,<-G,C8]
 have J:A.length=20:=by rw[<-y,C7];omega
 obtain⟨n,z⟩:∃n,l.length=n:=⟨_,rfl⟩;have x:20+B.length=n:=by rw[<-z,b,A6];omega
 have C:=Fa [] A B kD;have c:=Fa (bV A) B [] (by simp[fR];omega);have v:Ha [] (bV A) (bV B) [] 0 20 n n\/B.length=0:=by
  by_cases e:B.length=0
  .exact .inr e
  .exact .inl (KG _ _ _ _ _ _ _ _ _ ⟨by rw[fR];omega,by rw[fR];omega,nY A,nY B,rfl,by rw[fR];omega,by rw[fR];omega,rfl,aE⟩ (Nat.lt_succ_self _))
 unfold Ha at v;rw[z]at q I|-;have f:kV (bV A) (bV B)=bV l:=by rw[St,b]
 simp[fR,J,x,show(20:Int)+(B.length:Int)=(n:Int)by omega]at C c;simp[f]at v;refine pD func152 rfl ntmps152 results152 λK X d=>?_;apply aD;simp;apply aD;simp;apply eG;refine aZ (ι:=Nat×List Df) (λ⟨i,r⟩=>bA [(0,.ow 0 0 n),(1,.d (aI (n:Nat))),(2,.d (.fn 83 [])),(6,.d (aI 20)),(7,.d (aI (20*i:Nat))),(8,.d (aI (20*i+20:Nat)))]) (λ⟨i,r⟩=>aK [(0,.row false 2 (r.map Df.d))]) (λ⟨i,r⟩=>i<=1/\(i=0->l=r)/\(i=1->bV A++B=r)) (λ⟨i,r⟩=>1-i) (0,l) (aA d [0,1,2,6,7,8] [(0,0)]) (⟨aE,λ_=>rfl,λh=>aE⟩) λ⟨i,r⟩ t=>?_;apply fE;obtain⟨D,g,p⟩:=t;apply aJ;simp;apply aM;simp;refine⟨λE=>?_,λE=>?_⟩
 .have j:i=0:=aE;subst j;have a:=g rfl;subst a;apply aG;simp;apply aW;refine dH (oh 18 [(0,.row false 2 ((bV A++B).map Df.d))] (.tup [])) ?_;simp[b];refine⟨by simpa using C,?_⟩;apply aD;simp;apply aJ;simp;refine On.mk (1,bV A++B) (aA d [0,1,2,6,7,8] [(0,0)]) ?_ ?_
  .exact⟨A7 _,(λh=>by cases h),λ_=>rfl⟩
  .dsimp only;omega
 .have j:i=1:=aE;subst j;have a:=p rfl;subst a;apply bP;simp;refine dH (oh 27 [(0,.row false 2 ((bV A++bV B).map Df.d))] (.tup [])) ?_;simp;refine⟨by simpa using c,?_⟩;apply aW;refine aZ (ι:=Nat×List Df) (λ⟨k,r⟩=>bA [(0,.ow 0 0 n),(1,.d (aI (n:Nat))),(2,.d (.fn 83 [])),(6,.d (aI (20*k+20:Nat)))]) (λ⟨k,r⟩=>aK [(0,.row false 2 (r.map Df.d))]) (λ⟨k,r⟩=>k<=1/\(k=0->bV A++bV B=r)/\(k=1->bV l=r)) (λ⟨k,r⟩=>1-k) (0,bV A++bV B) (aA d [0,1,2,6] [(0,0)]) (⟨aE,λ_=>rfl,λh=>aE⟩) λ⟨k,r⟩ u=>?_;apply fE;obtain⟨D,g,p⟩:=u;apply aJ;simp;apply aM;simp;refine⟨λF=>?_,λF=>?_⟩
  .have m:k=0:=aE;subst m;have a:=g rfl;subst a;have w:=v.resolve_right (λe=>by rw[e]at x;simp at x;omega);apply aG;simp;apply aW;apply aD;simp;apply eG;refine aZ (ι:=Nat) (λc=>bA [(0,.ow 0 0 n),(1,.d (aI (n:Nat))),(2,.d (.fn 83 [])),(6,.d (aI 20)),(7,.d (aI 0)),(8,.d (aI 40))]) (λc=>aK [(0,.row false 2 ((bV A++bV B).map Df.d))]) (λc=>True) (λc=>0) 0 (aA d [0,1,2,6,7,8] [(0,0)]) (trivial) λc H=>?_;apply aF;apply bE;simp[(show¬(40<=(n:Int))by omega)];apply bP;simp;apply eP;simp;apply bE;simp[(show(20:Int)<n by omega)];refine bG (oh 60 [(0,.row false 2 ((bV l).map Df.d))] (.tup [])) ?_;simp;refine⟨by simpa using w,?_⟩;apply aJ;simp;refine On.mk (1,bV l) (aA d [0,1,2,6] [(0,0)]) ?_ ?_
   .exact⟨A7 _,(λh=>by cases h),λ_=>rfl⟩
   .dsimp only;omega
  .have a:bV l=r:=by
    by_cases m:k=1
    .exact p m
    .have o:k=0:=aE;subst o;have s:B.length=0:=aE;rw[<-g rfl,<-f,A5 s];simp[bV,Fe]
   subst a;apply bP;simp;exact aA d [] [(0,0)]
theorem Nu(l:List Df)(e:l.length<20):mE prog 152 [.ow 0 0 l.length,.d (aI l.length),.d (.fn 83 [])] [(0,.row false 2 (l.map Df.d))] [(0,.row false 2 ((bV l).map Df.d))] (.tup []):=by
 refine pD func152 rfl ntmps152 results152 λf X a=>?_;apply aD;simp;apply aD;simp;apply eG;refine aZ (ι:=Nat) (λi=>bA [(0,.ow 0 0 l.length),(1,.d (aI (l.length:Nat))),(2,.d (.fn 83 [])),(6,.d (aI 20)),(7,.d (aI 0)),(8,.d (aI 20))]) (λi=>aK [(0,.row false 2 (l.map Df.d))]) (λi=>True) (λi=>0) 0 (aA a [0,1,2,6,7,8] [(0,0)]) (trivial) λi b=>?_;apply aF;apply bE;simp[(show¬(20<=(l.length:Int))by omega)];apply bP;simp;apply aF;have d:=Fa [] l [] kD;refine bG (oh 27 [(0,.row false 2 ((bV l).map Df.d))] (.tup [])) ?_;simp;refine⟨by simpa using d,?_⟩;apply aW;refine aZ (ι:=Nat) (λi=>bA [(0,.ow 0 0 l.length),(1,.d (aI (l.length:Nat))),(2,.d (.fn 83 [])),(6,.d (aI 20)),(7,.d (aI 0)),(8,.d (aI 20))]) (λi=>aK [(0,.row false 2 ((bV l).map Df.d))]) (λi=>True) (λi=>0) 0 (aA a [0,1,2,6,7,8] [(0,0)]) (trivial) λi c=>?_;apply aF;apply bE;simp[(show¬(20<(l.length:Int))by omega)];apply bP;simp;exact aA a [] [(0,0)]
theorem Sw(l:List Df)(a:l.length<40):mE prog 152 [.ow 0 0 l.length,.d (aI l.length),.d (.fn 83 [])] [(0,.row false 2 (l.map Df.d))] [(0,.row false 2 ((bV l).map Df.d))] (.tup []):=by
 by_cases e:l.length<20
 .exact Nu l e
 .exact Nt l aE a
theorem FO(l:List Df)(a:l.length<40):mE prog 82 [.ow 0 0 l.length,.d (.fn 83 [])] [(0,.row false 2 (l.map Df.d))] [(0,.row false 2 ((bV l).map Df.d))] (.tup []):=by
 refine pD func82 rfl ntmps82 results82 λd X b=>?_;have c:=Sw l a;refine bG (oh 8 [(0,.row false 2 ((bV l).map Df.d))] (.tup [])) ?_;simp;refine⟨by simpa using c,?_⟩;exact aA b [] [(0,0)]
theorem Nv(l:List Df)(d:l.length<=1000000000000):Ok prog 81 [fT l] ⟨.own 2 (l.map Df.d),true⟩:=by
 refine bT func81 rfl ntmps81 results81 λf X e=>?_;apply aD;simp;apply fE;refine Ei hT hW 4 (decide (l=[])) (λ_=>none) (λ_=>⟨rfl,λ_ h=>h⟩) iY λc a=>?_;simp;apply aM;simp;refine⟨λb=>?_,λb=>?_⟩
 .apply aD;simp;apply aH;have:=a b;simp at this;simp[this]
 .apply aG;simp;apply aD;simp;refine⟨aE,?_⟩;apply aH;simp
theorem Dq(l:List Df)(b:l.length<40):Ok prog 24 [fT l] ⟨.own 2 ((bV l).map Df.d),true⟩:=by
 refine bT func24 rfl ntmps24 results24 λf X e=>?_;apply aD;simp;apply aF;have c:=Nv l aE;refine bG (og 5 (.plain ⟨.own 2 (l.map Df.d),true⟩)) ?_;simp;refine⟨by simpa using c,?_⟩;apply aF;have d:=FO l b;refine bG (og 7 (.gen ⟨[(5,0)],[],[],[(0,.row false 2 ((bV l).map Df.d))],.tup []⟩)) ?_;simp;refine⟨by simpa using d,?_⟩;apply aD;simp;apply aH;have a:F3 l.length (D1 Df.d (bV l))=D1 Df.d (bV l):=A4 (by rw[B3,fR];exact A7 _);simp[fR,a]
theorem Ff(l:List Df):Ok prog 34 [fT l] ⟨.tup [.d (aI (mD l).2.1),.d (aI (mD l).2.2)],true⟩:=by
 refine Ok.two func34 iY (c:=_) rfl ntmps34 bB results34 rfl λd X b=>?_;apply aD;simp;apply aF;have a:=EY l;refine bG (og 9 (.plain ⟨.tup [.d (Ac (mD l).1),.d (aI (mD l).2.1),.d (aI (mD l).2.2)],false⟩)) ?_;simp[bM];refine⟨⟨by simpa using a,by simp[Ac]⟩,?_⟩;simp[Ac];apply aD;simp;apply aH;simp
def gT(ts:List Nd):List bC:=(ts.filter λt=>decide (t.kind=6)).map Nd.text
theorem KH{a:List Nd}{i:Nat}(h:i<a.length):gT (a.take (i+1))=if a[i].kind=6 then gT (a.take i)++[a[i].text]else gT (a.take i):=by
 unfold gT;rw[A2 h,List.filter_append,C5];by_cases e:a[i].kind=6<;>simp[e]
theorem Aj(a:List Nd):(gT a).length<=a.length:=by unfold gT;rw[B3];exact G1 _ _
def Fg(l:List Df):List bC:=if(mD l).2.2≠0 then []else eE (gT (mD l).1)
theorem Fh(l:List Df):(mD l).1=(dS l).1:=by
 unfold mD;split
 .rfl
 .split
  .rfl
  .split<;>rfl
theorem Fi(l:List Df):Ok prog 36 [fT l] ⟨.own 1 ((Fg l).map .str),true⟩:=by
 refine bT func36 rfl ntmps36 results36 λu X j=>?_;obtain⟨a,d⟩:∃a,(mD l).1=a:=⟨_,rfl⟩;have n:a.length<=24:=by rw[<-d,Fh];exact(rB l).2.1
 have b:Fg l=if(mD l).2.2≠0 then []else eE (gT a):=by rw[<-d];rfl
 apply aD;simp;apply aF;have p:=EY l;rw[d]at p;refine bG (og 11 (.plain ⟨.tup [.d (Ac a),.d (aI (mD l).2.1),.d (aI (mD l).2.2)],false⟩)) ?_;simp[bM];refine⟨⟨by simpa using p,by simp[Ac]⟩,?_⟩;simp[Ac];apply aF;apply bE;simp;refine⟨λg=>?_,λg=>?_⟩
 .rw[if_pos g]at b;apply aD;simp;apply aH;simp[b]
 .rw[if_neg (by simpa using g)]at b;apply aG;simp;apply aD;simp;apply eP;simp;apply aW;refine aZ (ι:=Nat) (λi=>bA [(6,.ow 6 0 (gT (a.take i)).length),(18,.d (ndsD a)),(19,.d (aI (a.length:Nat))),(20,.d (aI (i:Nat)))]) (λi=>aK [(6,.row false 1 ((gT (a.take i)).map .str))]) (λi=>i<=a.length) (λi=>a.length-i) 0 (aA j [6,18,19,20] [(6,6)] (by simp[gT]) (by simp[gT])) (D4 _) λi r=>?_;apply aD;simp;apply aF;apply aM;simp;refine⟨λq=>?_,λq=>?_⟩
  .apply aG;simp;apply eG;apply aF;have m:i<a.length:=aE;obtain⟨t,o⟩:∃t,a[i]=t:=⟨_,rfl⟩;have c:=KH m;have f:=Aj (a.take i);rw[C7]at f;rw[o]at c;apply aJ;simp[m,o];apply bE;simp;refine⟨λh=>?_,λh=>?_⟩
   .simp only[if_pos h]at c;apply aJ;simp;refine⟨aE,?_⟩;apply aJ;simp;refine⟨aE,?_⟩;refine On.mk (i+1) (aA j [6,18,19,20] [(31,6)] (by simp[c]) (by simp[c])) ?_ ?_
    .omega
    .omega
   .simp only[if_neg h]at c;apply aG;simp;apply aJ;simp;refine⟨aE,?_⟩;refine On.mk (i+1) (aA j [6,18,19,20] [(6,6)] (by simp[c]) (by simp[c])) ?_ ?_
    .omega
    .omega
  .apply bP;simp;apply aF;have e:i=a.length:=aE;subst e;rw[E4];have f:=Aj a;have s:=Ad (gT a) aE;refine bG (og 34 (.gen ⟨[(6,0)],[],[],[(0,.row false 1 ((eE (gT a)).map .str))],.tup []⟩)) ?_;simp;refine⟨by simpa using s,?_⟩;apply aD;simp;apply aH;have k:F3 (gT a).length (D1 DV.str (eE (gT a)))=D1 DV.str (eE (gT a)):=A4 (by rw[B3,jU];exact A7 _);simp[b,jU,k]
def lR(d:Df):bC:=if(parseS d.text).2.2≠0 then d.text else printS (parseS d.text).1
theorem Ak(d:Df):Ok prog 89 [d.d] ⟨.d (.str (lR d)),true⟩:=by
 refine bT func89 rfl ntmps89 results89 λj X i=>?_;obtain⟨P,f⟩:∃P,parseS d.text=P:=⟨_,rfl⟩;have e:=EW d.text;have a:=rA d.text;have b:lR d=if P.2.2≠0 then d.text else printS P.1:=by unfold lR;rw[f]
 rw[f]at e a;obtain⟨x,g⟩:∃x,P.1=x:=⟨_,rfl⟩;rw[g]at e a b;apply aD;simp;refine dH (og 9 (.plain ⟨.tup [.d x.d,.d (aI P.2.1),.d (aI P.2.2)],false⟩)) ?_;simp[bM];refine⟨by simpa using e,?_⟩;apply aF;apply bE;simp;refine⟨λc=>?_,λc=>?_⟩
 .rw[if_pos c]at b;apply aD;simp;apply aH;simp[b]
 .rw[if_neg (by simpa using c)]at b;apply aG;simp;apply aF;have h:=Print_ok x a;refine bG (og 18 (.plain ⟨.d (.str (printS x)),true⟩)) ?_;simp;refine⟨by simpa using h,?_⟩;apply aH;simp[b]
end
section
open Go.Proofs Go.Sort Go.Shelf Go.RowKit
attribute[local simp] aR bJ bF aO aL aX aP
theorem aAm{w:World}{E:Nat->Prop}{s:bC}{v:Value}(h:RD w E (.str s) v):v=tX s:=by cases h;rfl
def wR(e:MapEntry):bC:=match e.key with
 | .string b=>b.data.toList
 |_=>[]
theorem Iy(s:List bC)(S:List DV)(U:s.length*16<=140737488355328):
 XB prog 260 [.nl,.d (.fn 181 [.ro [.mp (s.map .str) S]])] []
  (λD L=>∃p:List bC,p.Perm s/\D=[(0,.dead),(1,.row false 1 (p.map .str))]/\L=.ow 1 0 p.length):=by
 refine⟨⟨_,func260,iY,by rfl⟩,λw X β vs m0 K Q=>?_⟩
 match vs,K with
 |[v0,v1],_=>
 have r0:=Q 0 _ _ rfl rfl;have r1:=Q 1 _ _ rfl rfl;obtain⟨N,rfl⟩:∃a,v0=.slice a 0 0:=by cases r0 with|nl a=>exact⟨a,rfl⟩
 obtain⟨y,B,b,f,c,rfl,n,o,z,k,q⟩:∃y B b f c,v1=.func (.func 181) #[] #[.pointer (some ⟨y,B,none⟩)]/\w.cell? ⟨y,B,none⟩=some (.map (some b))/\w.heap[b]? =some (.map c f)/\
  (s.map DV.str).length=c.size/\gH c f/\∀(i:Nat) (d:DV) (e:MapEntry),(s.map DV.str)[i]? =some d->c[i]? =some e->RD w (Ex X β (aK [])) d e.key:=by
  cases r1 with
  |d _ _ h=>cases h with
   |fn _ _ us hl hc=>
    match us,hl with
    |[u],_=>
    have O:=hc 0 _ u rfl rfl;cases O with
    |ro _ y B us2 hBm hul _ _ n h=>
     match us2,hul with
     |[u2],_=>
     have x:=h 0 _ u2 rfl rfl;have E:=n 0 u2 rfl;cases x with
     |mp _ _ b f c hb _ o z _ k q _=>exact⟨y,B,b,f,c,rfl,by simpa using E,o,z,k,q⟩
 rw[B3]at z;have r:∀(i:Nat) (C:i<s.length) (x:i<c.size),c[i].key=tX s[i]:=λi C x=>aAm (q i _ _ (by simp[C]) (Array.getElem?_eq_getElem x));have H:∀e∈c.toList,e.key=tX (wR e):=λe W=>by
  obtain⟨i,Z,rfl⟩:=B7 W;have G:i<c.size:=by simpa using Z
  have:=r i aE G;simp only[Array.getElem_toList];simp[wR,this,tX]
 have A:c.toList.map wR=s:=by
  apply H3 (by simpa using z.symm);intro i C x;have:=r i x aE;simp[wR,this,tX]
 obtain⟨m,_⟩:=vE m0 (d:=0) (by simp[aK,fN]) (s:=1) bK;refine(If w (.slice N 0 0) [] none ⟨rfl,bB,.inl ⟨rfl,rfl,N,rfl⟩⟩ (λg Y=>by cases Y) n bB o bB k wR H (by rw[<-z];simpa using U)).mono ?_;rintro e w' ⟨v,M,gb,rfl,P,I,J,F⟩;rw[A]at P;obtain⟨β',hm,V⟩:=m.appended qU (id:=0) (new:=1) (l:=[]) (by rw[aV];rfl) (by rw[cM _ _ bK];simp[aK,fN]) (.inl ⟨rfl,rfl⟩) I J F;have t:aK [(0,.dead),(1,.row false 1 (M.map .str))]=cP (cP (cP (aK []) 0 (.row false 1 [])) 0 .dead) 1 (.row false 1 (M.map .str)):=by
  funext j;simp only[aK,fN,cP];by_cases O:j=0<;>by_cases C:j=1<;>simp_all
 exact⟨v,β',_,_,⟨M,P,rfl,rfl⟩,rfl,by rw[t];simpa using hm,by rw[t];simpa using V⟩
theorem Nw(s:List bC)(g:List DV)(k:s.length*16<=140737488355328):Zv prog 180 [.fn 181 [.ro [.mp (s.map .str) g]]] (λr=>(λv=>∃p:List bC,p.Perm s/\v=.own 1 (p.map .str)) r.v/\r.fresh=true):=by
 refine Zv.ret (Rel:=λv=>∃p:List bC,p.Perm s/\v=.own 1 (p.map .str)) func180 iY (c:=_) rfl ntmps180 bB results180 λn X m=>?_;apply aD;simp;apply aF;refine Jx hT hW 4 [] [(1,4)] [1] (λa f=>∃p:List bC,p.Perm s/\a=[(0,.dead),(1,.row false 1 (p.map .str))]/\f=.ow 1 0 p.length) _ _ ⟨s,List.Perm.refl _,rfl,rfl⟩ (λ|99=>none|_=>none) (by intro d;first|exact⟨rfl,λ_ h=>h⟩|(split<;>exact⟨rfl,λ_ h=>h⟩)) iY λl e=>?_;obtain⟨i,j⟩:=l;obtain⟨p,b,rfl,rfl⟩:=e;simp;refine⟨Iy s g k,?_⟩;apply aH;simp only[Uw];refine⟨_,⟨p,b,rfl⟩,bB,?_⟩;simp
theorem Sx(s:List bC)(c:List DV)(k:s.length<=8000000000000):Ok prog 102 [.fn 181 [.ro [.mp (s.map .str) c]]] ⟨.own 1 ((eE s).map .str),true⟩:=by
 refine bT func102 rfl ntmps102 results102 λn X l=>?_;apply aD;simp;apply aF;refine Mr hT hW 5 (λr=>(∃p:List bC,p.Perm s/\r.v=.own 1 (p.map .str))/\r.fresh=true) true ⟨.own 1 (s.map .str),true⟩ ⟨⟨⟨s,List.Perm.refl _,rfl⟩,rfl⟩,rfl⟩ (λ|99=>none|_=>none) (by intro d;first|exact⟨rfl,λ_ h=>h⟩|(split<;>exact⟨rfl,λ_ h=>h⟩)) iY λi b=>?_;obtain⟨m,j⟩:=i;obtain⟨⟨p,a,f⟩,e⟩:=b;dsimp only at f e;subst f;subst e;have g:=a.length_eq;simp;refine⟨Nw s c aE,?_⟩;refine dH (og 7 (.gen ⟨[(5,0)],[],[],[(0,.row false 1 ((eE p).map .str))],.tup []⟩)) ?_;simp;refine⟨by simpa using Ad p aE,?_⟩;apply aD;simp;apply aH;rw[<-MM a];simp[jU];rw[A4 (by simp[jU])]
theorem Nx(a b:List DV):Ok prog 103 [.mp a b] ⟨.d (.fn 181 [.ro [.mp a b]]),false⟩:=by
 refine bT func103 rfl ntmps103 results103 λd X c=>?_;apply aD;simp;apply aD;simp;apply aH;simp
end
section
attribute[local simp] aR bJ bF aO aL aX aP
attribute[local simp] kH.cond Nd.d_eq nd_t nd_dr nd_td ndsD aQ bL vW AU cY.d
def BW(M:List bC)(s:bC):List bC:=if s∈M then M else M++[s]
def eW(us:List cY):List bC:=us.foldl (λM u=>BW M u.name) []
theorem KI{a:List cY}{i:Nat}{u:cY}(h:a[i]? =some u):eW (a.take (i+1))=BW (eW (a.take i)) u.name:=by
 obtain⟨c,b⟩:=C9.1 h;unfold eW;rw[A2 c,List.foldl_append,b];rfl
theorem Ny(a:List cY):(eW a).length<=a.length:=by
 have:∀(a:List cY) (M:List bC),(a.foldl (λM u=>BW M u.name) M).length<=M.length+a.length:=λa=>by
  induction a with
  |nil=>intro M;exact A7 _
  |cons u r ih=>
   intro M;rw[C6];refine G9 (ih _) ?_;unfold BW;split<;>simp<;>omega
 simpa [eW]using this a []
mutual
theorem BX:∀x:Nd,(bX x).length<=weighN x
 | .mk k t n ks=>by
   have h:=Hb ks;have a:(yL k t).length<=1:=by unfold yL;split<;>simp
   rw[bX,weighN,A6];omega
theorem Hb:∀l:List Nd,(gL l).length<=weighL l
 |[]=>A7 _
 |x::r=>by
  have a:=BX x;have b:=Hb r;rw[gL,weighL,A6];omega
end
theorem KJ(s:bC):∀(M:List bC) (i:Nat),iG (.str s) (M.map .str) i=some ((M.findIdx? (λx=>decide (s=x))).map (·+i))
 |[],i=>rfl
 |x::r,i=>by
  have e:kJ (.str s) (.str x)=some (decide (s=x)):=by
   simp only[kJ,FR,Option.some.injEq];by_cases h:s=x<;>simp[h]
  rw[D7,iG,e,List.findIdx?_cons];by_cases h:s=x
  .simp[h]
  .simp only[h,decide_false,Bool.false_eq_true,if_false];rw[KJ s r (i+1)];cases r.findIdx? (λx=>decide (s=x))with
   |none=>rfl
   |some j=>simp;omega
def Tn(M:List bC):List DV:=M.map λ_=>.bool true
theorem VZ(M:List bC){H:dR}{id:Nat}{s:bC}(h:H id=.map false (M.map .str) (Tn M)):
 cK T H 144 (.mp id) (.d (.str s)) (.d (.bool true))=⟨.junk,True,[(id,.map false ((BW M s).map .str) (Tn (BW M s)))]⟩:=by
 unfold cK BW;simp only[aBy,h,KJ];by_cases a:s∈M
 .obtain⟨j,b,l⟩:∃j,(M.findIdx? λx=>decide (s=x))=some j/\j<M.length:=by
   cases q:(M.findIdx? λx=>decide (s=x))with
   |none=>rw[B1]at q;have:=q s a;simp at this
   |some j=>exact⟨j,rfl,(A3.1 q).1⟩
  have d:(Tn M).set j (.bool true)=Tn M:=by
   unfold Tn;apply H3 bB;intro i g k;rw[List.getElem_set];split<;>simp
  simp[b,a,d,sL,gI]
 .have c:(M.findIdx? λx=>decide (s=x))=none:=by
   rw[B1];intro x f;simp;intro e;subst e;exact a f
  simp[c,a,sL,gI,Tn]
def kG(l:List Df)(name:bC):Int:=pE (λd=>decide (d.name=name)) l
def pU:Option Nat->Int
 |some i=>(i:Int)
 |none=> -1
theorem mM{α:Type}(p:α->Bool)(l:List α):pE p l=pU (l.findIdx? p):=by unfold pE pU;cases l.findIdx? p<;>rfl
def Fj(l:List Df):Option Nat->List bC×Int
 |none=>([],6)
 |some i=>if(parseS (l.getD i default).text).2.2≠0 then([],(parseS (l.getD i default).text).2.2)else(eE (eW (bX (parseS (l.getD i default).text).1)),0)
def Hc(l:List Df)(name:bC):List bC×Int:=Fj l (l.findIdx? λd=>decide (d.name=name))
theorem Nz(l:List Df)(p:Df->Bool)(g:FuncId)(d:List DV)(h:∀x∈l,Ok prog g (x.d::d) ⟨.d (.bool (p x)),true⟩):Ok prog 99 [fT l,.fn g d] ⟨.d (aI (pE p l)),true⟩:=by
 refine bT func99 rfl ntmps99 results99 λj X f=>?_;refine fF.len (t:=0) rfl λc=>?_;simp at c;apply aD;simp;apply eP;simp;apply aW;refine aZ (ι:=Nat) (λi=>bA [(0,.d (fT l)),(1,.d (.fn g d)),(7,.d (aI l.length)),(8,.d (aI i))]) (λi=>aK []) (λi=>i<=l.length/\Ya p l i) (λi=>l.length-i) 0 (aA f [0,1,7,8] []) (⟨D4 _,Ya.zero⟩) λi a=>?_;apply aD;simp;apply aF;apply aM;simp;refine⟨λb=>?_,λb=>?_⟩
 .apply aG;simp;apply eG;apply aD;simp;refine dH (og 16 (.plain ⟨.d (.bool (p l[i])),true⟩)) ?_;simp[b];refine⟨h l[i] (A9 b),?_⟩;apply aM;simp;refine⟨λe=>?_,λe=>?_⟩
  .apply aD;simp;apply aH;simp[yG (a.2.found b e)]
  .apply aG;simp;apply aJ;simp;refine⟨aE,?_⟩;refine On.mk (i+1) (aA f [0,1,7,8] []) ?_ ?_
   .exact⟨b,a.2.succ b e⟩
   .omega
 .apply bP;simp;apply aD;simp;apply aH;simp[yH (a.2.none aE)]
theorem Sy(d:Df)(a:bC):Ok prog 100 [d.d,.ro [.str a]] ⟨.d (.bool (decide (d.name=a))),true⟩:=by
 refine bT func100 rfl ntmps100 results100 λc X b=>?_;apply aD;simp;apply aD;simp;apply aH;simp;by_cases h:d.name=a<;>simp[h]
theorem Dr(l:List Df)(a:bC):Ok prog 37 [fT l,.str a] ⟨.tup [.own 1 ((Hc l a).1.map .str),.d (aI (Hc l a).2)],true⟩:=by
 refine Ok.two func37 iY (c:=_) rfl ntmps37 bB results37 rfl λL X k=>?_;obtain⟨f,g⟩:∃f,l.findIdx? (λd=>decide (d.name=a))=f:=⟨_,rfl⟩;have b:Hc l a=Fj l f:=by unfold Hc;rw[g]
 have p:pE (λd=>decide (d.name=a)) l=pU f:=by rw[mM,g]
 apply aD;simp;refine fD (iH.freeze [3]) ?_;simp;apply aF;have G:=Nz l (λd=>decide (d.name=a)) 100 [.ro [.str a]] λx _=>Sy x a;refine bG (og 15 (.plain ⟨.d (aI (pE (λd=>decide (d.name=a)) l)),true⟩)) ?_;simp;refine⟨by simpa using G,?_⟩;apply aF;apply bE;simp;refine⟨λm=>?_,λm=>?_⟩
 .have B:f=none:=by cases f with|none=>rfl|some i=>rw[p]at m;simp[pU]at m;omega
  subst B;simp only[Fj]at b;apply aD;simp;apply aH;simp[b]
 .obtain⟨i,rfl⟩:∃i,f=some i:=by cases f with|some i=>exact⟨i,rfl⟩|none=>rw[p]at m;simp[pU]at m
  simp only[Fj]at b;simp only[pU]at p;have o:i<l.length:=(A3.1 g).1;obtain⟨d,v⟩:∃d,l[i]=d:=⟨_,rfl⟩;have n:l.getD i default=d:=by rw[A1,A0 o,v];rfl
  rw[n]at b;obtain⟨P,A⟩:∃P,parseS d.text=P:=⟨_,rfl⟩;have t:=EW d.text;have j:=rA d.text;rw[A]at t j b;obtain⟨x,F⟩:∃x,P.1=x:=⟨_,rfl⟩;rw[F]at t j b;apply aG;simp;refine dH (og 24 (.plain ⟨.tup [.d x.d,.d (aI P.2.1),.d (aI P.2.2)],false⟩)) ?_;simp[bM,p,o,v];refine⟨by simpa using t,?_⟩;apply aF;apply bE;simp;refine⟨λr=>?_,λr=>?_⟩
  .rw[if_pos r]at b;apply aD;simp;apply aH;simp[b]
  .rw[if_neg (by simpa using r)]at b;apply aG;simp;apply aD;simp;apply fE;have y:=HX x;simp at y;refine bG (og 33 (.plain ⟨.d (.fn 174 [.ro [aI x.kind,.str x.text,aI x.n,.sl (x.kids.map Nd.d)]]),false⟩)) ?_;simp;refine⟨by simpa using y,?_⟩;apply aW;refine fD (aA k [10,33] [(10,10),(31,31)] (env':=bA [(10,.bx 10 0),(33,.d (.fn 174 [.ro [aI x.kind,.str x.text,aI x.n,.sl (x.kids.map Nd.d)]]))]) (H':=aK [(10,.box false [.mp 31]),(31,.map false [] [])]) bB bB) ?_;refine fF.rangeFunc (items:=(bX x).map AU) (by simpa using BM x j) bB (by intro w e;obtain⟨u,_,rfl⟩:=B8.1 e;rfl) bB iY iY (λi=>aK [(10,.box false [.mp 31]),(31,.map false ((eW ((bX x).take i)).map .str) (Tn (eW ((bX x).take i))))]) (λi=>aK [(10,.box false [.mp 31]),(12,.box false [.d (aI (sI x i).kind),.d (.str (sI x i).name),.d (.str (sI x i).field)]),(31,.map false ((eW ((bX x).take (i+1))).map .str) (Tn (eW ((bX x).take (i+1)))))]) (rfl) [10,31] bK (by simp[k]) (λi id h=>by simpa using oG id h) (λi=>bA [(10,.bx 10 0),(12,.bx 12 0)]) (λi=>aK [(10,.box false [.mp 31]),(12,.box false [.d (aI (sI x i).kind),.d (.str (sI x i).name),.d (.str (sI x i).field)]),(31,.map false ((eW ((bX x).take i)).map .str) (Tn (eW ((bX x).take i))))]) [10,12,31] (λi id h=>by simpa using oG id h) (λi K=>?_) (λJ z i w k e=>?_) (λJ z i w k e=>?_) ?_
   .simp
   .obtain⟨u,q,rfl⟩:=eM e;have b:=yN q;apply aJ;simp;exact aA k [10,12] [(10,10),(12,12),(31,31)] (by simp[b]) (by simp[b])
   .obtain⟨u,q,rfl⟩:=eM e;have b:=yN q;have D:=KI q;simp[b];apply aW;apply aJ;simp[VZ (eW ((bX x).take i))];exact aA k [] [(10,10),(12,12),(31,31)] (hH:=by simp[b,D])
   .apply aF;have C:=Ny (bX x);have E:=BX x;have I:=Sx (eW (bX x)) (Tn (eW (bX x))) aE;have H:=Nx ((eW (bX x)).map .str) (Tn (eW (bX x)));refine bG (λ|40=>some<| .plain ⟨.d (.fn 181 [.ro [.mp ((eW (bX x)).map .str) (Tn (eW (bX x)))]]),false⟩|41=>some<| .plain ⟨.own 1 ((eE (eW (bX x))).map .str),true⟩|_=>none) ?_;simp;refine⟨⟨by simpa using H,by simpa using I⟩,?_⟩;apply aH;have s:F3 (eW (bX x)).length (D1 DV.str (eE (eW (bX x))))=D1 DV.str (eE (eW (bX x))):=A4 (by rw[B3,jU];exact A7 _);simp[b,jU,s]
theorem Sz(a b:Df):Ok prog 93 [a.d,b.d] ⟨.d (.bool (decide (a.name=b.name/\lR a=lR b))),true⟩:=by
 refine bT func93 rfl ntmps93 results93 λh X g=>?_;apply aD;simp;apply aF;have e:=Ak a;have f:=Ak b;refine fF.rd [[],[],[],[],[],[],[],[],[12]] [[],[],[],[],[],[],[],[12],[],[14]] (λ|12=>some<| .plain ⟨.d (.str (lR a)),true⟩|14=>some<| .plain ⟨.d (.str (lR b)),true⟩|_=>none) ?_;simp;refine⟨⟨λ_=>by simpa using e,λ_=>by simpa using f⟩,?_⟩;apply aH;simp;by_cases c:a.name=b.name<;>by_cases d:lR a=lR b<;>simp[c,d]
def NA(d:Df):bC×bC:=(d.name,lR d)
theorem Qf{a b:Df}:NA a=NA b↔a.name=b.name/\lR a=lR b:=by simp[NA]
def Bk(a b:List Df):Bool:=decide (a.map NA=b.map NA)
theorem SA{a b:List Df}(h:Bk a b=true):a.length=b.length:=by
 have:=congrArg I5 (of_decide_eq_true h);simpa using this
theorem We(l m:List Df):Ok prog 92 [fT l,fT m,.fn 93 []] ⟨.d (.bool (Bk l m)),true⟩:=by
 refine bT func92 rfl ntmps92 results92 λs X k=>?_;refine fF.len (t:=0) rfl λb=>?_;simp at b;apply aD;simp;apply aF;apply bE;simp;refine⟨λj=>?_,λj=>?_⟩
 .apply aD;simp;apply aH;simp;rw[F7];intro q;exact j (by rw[SA q])
 .apply aG;simp;apply eP;simp;apply aW;refine aZ (ι:=Nat) (λi=>bA [(0,.d (fT l)),(1,.d (fT m)),(2,.d (.fn 93 [])),(15,.d (fT l)),(16,.d (aI l.length)),(17,.d (aI i))]) (λi=>aK []) (λi=>i<=l.length/\(l.map NA).take i=(m.map NA).take i) (λi=>l.length-i) 0 (aA k [0,1,2,15,16,17] []) (⟨D4 _,rfl⟩) λi a=>?_;apply aD;simp;apply aF;apply aM;simp;refine⟨λo=>?_,λo=>?_⟩
  .apply aG;simp;apply eG;apply aF;have g:i<l.length:=aE;apply aJ;simp[g];apply aF;have c:i<m.length:=aE;apply aJ;simp[c];apply aF;have p:=Sz l[i] m[i];refine bG (og 29 (.plain ⟨.d (.bool (decide (l[i].name=m[i].name/\lR l[i]=lR m[i]))),true⟩)) ?_;simp;refine⟨by simpa using p,?_⟩;apply aM;simp;refine⟨λd=>?_,λd f=>?_⟩
   .apply aD;simp;apply aH;simp;rw[F7];intro q;have n:=congrArg (·[i]?) (of_decide_eq_true q);simp only[E1,A0 g,A0 c,Option.map_some,Option.some.injEq]at n;have:=Qf.1 n;rcases d with h|h
    .exact h this.1
    .exact h this.2
   .apply aG;simp;apply aJ;simp;refine⟨aE,?_⟩;refine On.mk (i+1) (aA k [0,1,2,15,16,17] []) ?_ ?_
    .refine⟨aE,?_⟩;have c:i<m.length:=aE;rw[A2 (by simpa using g),A2 (by simpa using c),a.2,C0,C0,Qf.2 ⟨d,f⟩]
    .omega
  .apply bP;simp;apply aD;simp;apply aH;simp;have e:i=l.length:=aE;have r:i=m.length:=aE;have h:=a.2;rw[A4 kD,A4 kD]at h;exact decide_eq_true h
theorem Hd(a b:List Df)(e:a.length<40)(f:b.length<40):Ok prog 29 [fT a,fT b] ⟨.d (.bool (Bk (bV a) (bV b))),true⟩:=by
 refine bT func29 rfl ntmps29 results29 λl X k=>?_;apply aD;simp;apply aF;have g:=Dq a e;have h:=Dq b f;have i:=We (bV a) (bV b);have c:=fR a;have d:=fR b;have j:F3 a.length (D1 Df.d (bV a))=D1 Df.d (bV a):=A4 (by rw[B3,c];exact A7 _);have t2:F3 b.length (D1 Df.d (bV b))=D1 Df.d (bV b):=A4 (by rw[B3,d];exact A7 _);refine bG (λ|6=>some<| .plain ⟨.own 2 ((bV a).map Df.d),true⟩|8=>some<| .plain ⟨.own 2 ((bV b).map Df.d),true⟩|9=>some<| .plain ⟨.d (.bool (Bk (bV a) (bV b))),true⟩|_=>none) ?_;simp[c,d,j,t2];refine⟨⟨⟨by simpa using g,by simpa using h⟩,by simpa using i⟩,?_⟩;apply aH;simp
end
section
attribute[local simp] aR bJ bF aO aL aX aP
attribute[local simp] kH.cond Nd.d_eq nd_t nd_dr nd_td ndsD aQ bL
def cY.r(u:cY):DV:=.agg [aI u.bk,aI u.kind,.str u.name,.str u.field]
theorem use_mem{l:List cY}{y:DV}(h:y∈l.map cY.r):(aU y).length=4:=by obtain⟨u,_,rfl⟩:=B8.1 h;rfl
theorem us_t{l:List cY}{k:Nat}:(∀y∈F3 k (D1 cY.r l),(aU y).length=4)↔True:=iff_true_intro λ_ h=>use_mem (List.mem_of_mem_take h)
theorem us_m{l:List cY}:(∀y∈D1 cY.r l,(aU y).length=4)↔True:=iff_true_intro λ_ h=>use_mem h
theorem us_d{u:cY}:(aU u.r).length=4:=rfl
attribute[local simp] us_t us_m us_d cY.r
end
section
attribute[local simp] aR bJ bF aO aL aX aP
attribute[local simp] kH.cond Nd.d_eq nd_t nd_dr nd_td ndsD aQ bL bN
def firstE(l:List Df)(d:Df)(i:Nat):Int:=
 if(parseS d.text).2.2≠0 then(parseS d.text).2.2
 else if(parseS d.text).1.text≠d.name then 11
 else if kG l d.name<(i:Int)then 7
 else if(cR (parseS d.text).1).Nodup then 0 else 7
theorem nodup_take_succ{f:List bC}{k:Nat}(j:k<f.length):(f.take (k+1)).Nodup↔(f.take k).Nodup/\f[k]∉f.take k:=by
 rw[A2 j,E2];constructor
 .rintro⟨c,_,h⟩;exact⟨c,λl=>h _ l _ bB rfl⟩
 .rintro⟨c,g⟩;exact⟨c,bB,λa i b d e=>g (by simp at d;rw[<-d,<-e];exact i)⟩
theorem nodup_take{f:List bC}(h:f.Nodup)(k:Nat):(f.take k).Nodup:=h.sublist (H0 _ _)
def putS(l:List bC)(s:bC):List bC:=if s∈l then l else iW (mR (λy=>Op.bytesLess s y) l l.length) s l
end
section
attribute[local simp] aR bJ bF aO aL aX aP
attribute[local simp] kH.cond Nd.d_eq nd_t nd_dr nd_td ndsD aQ bL bN us_t us_m us_d cY.r
def tAt(l:List Df)(name:bC):Nd:=(parseS (l.getD (kG l name).toNat default).text).1
def p1(l:List Df)(u:cY):Bool:=decide (kG l u.name<0)
def p2(l:List Df)(u:cY):Bool:=decide ((tAt l u.name).kind≠u.kind)
def p3(l:List Df)(u:cY):Bool:=decide (u.kind=1/\u.field∉cR (tAt l u.name))
def secondE(l:List Df)(us:List cY):Int:=if us.any (p1 l)=true then 6 else if us.any (p2 l)=true then 12 else if us.any (p3 l)=true then 6 else 0
theorem idxN_lt{l:List Df}{a:bC}(h:0<=kG l a):∃i d,kG l a=((i:Nat):Int)/\l[i]? =some d/\tAt l a=(parseS d.text).1:=by
 unfold kG at h;rw[mM]at h;cases q:l.findIdx? (λd=>decide (d.name=a))with
 |none=>rw[q]at h;simp[pU]at h
 |some i=>
  have b:=(A3.1 q).1;have e:kG l a=(i:Nat):=by unfold kG;rw[mM,q];rfl
  refine⟨i,l[i],e,A0 b,?_⟩;unfold tAt;rw[e,E3,A1,A0 b];rfl
def cbR(c:Bool)(k:Int):Bool:= !c||decide (k=14)
def bfsS(c:Bool)(st:List bC×List bC)(u:cY):List bC×List bC:=if cbR c u.bk=true/\u.name∉st.1 then(putS st.1 u.name,st.2++[u.name])else st
def bfsN(l:List Df)(c:Bool)(st:List bC×List bC)(nm:bC):List bC×List bC:=if kG l nm<0 then st else(bX (tAt l nm)).foldl (bfsS c) st
def bfsF(l:List Df)(c:Bool):Nat->Nat->List bC×List bC->List bC
 |0,_,st=>st.1
 |f+1,n,st=>match st.2[n]? with
  |none=>st.1
  |some nm=>bfsF l c f (n+1) (bfsN l c st nm)
def allU(l:List Df):List bC:=l.flatMap λd=>(bX (parseS d.text).1).map cY.name
def reachR(l:List Df)(name:bC)(c:Bool):List bC:=bfsF l c ((allU l).length+2) 0 ([],[name])
def muS(U out:List bC):Nat:=(U.filter λu=>decide (u∉out)).length
structure BfsJ(U:List bC)(st:List bC×List bC):Prop where
 room:st.1.length+muS U st.1<=U.length
 two:st.2.length=st.1.length+1
theorem putS_new{l:List bC}{s:bC}(h:s∉l):(putS l s).length=l.length+1:=by unfold putS;rw[if_neg h,pM]
theorem mem_putS{l:List bC}{s x:bC}:x∈putS l s↔x=s\/x∈l:=by
 unfold putS;split
 .rename_i h;exact⟨.inr,λa=>a.elim (λe=>e▸h) id⟩
 .exact RL
theorem muS_put{U a:List bC}{s:bC}(c:s∈U)(h:s∉a):muS U (putS a s)<muS U a:=by
 unfold muS;exact Af (x:=s) (λy b=>by simp[mem_putS]at b|-;exact b.2) c (by simpa using h) (by simp[mem_putS])
theorem bfsS_J{U:List bC}{c:Bool}{a:List bC×List bC}{u:cY}(d:u.name∈U)(h:BfsJ U a):BfsJ U (bfsS c a u)/\muS U (bfsS c a u).1+(bfsS c a u).2.length<=muS U a.1+a.2.length:=by
 unfold bfsS;split
 .rename_i b;have e:=muS_put d b.2;have f:=putS_new b.2;have g:=h.room;have i:=h.two;refine⟨⟨?_,?_⟩,?_⟩
  .show(putS a.1 u.name).length+muS U (putS a.1 u.name)<=U.length;omega
  .show(a.2++[u.name]).length=(putS a.1 u.name).length+1;rw[A6,G2];omega
  .show muS U (putS a.1 u.name)+(a.2++[u.name]).length<=_;rw[A6,G2];omega
 .exact⟨h,A7 _⟩
theorem uses_allU{l:List Df}{b:bC}(h:0<=kG l b):∀u∈bX (tAt l b),u.name∈allU l:=λu a=>by
 obtain⟨i,d,_,c,e⟩:=idxN_lt h;rw[e]at a;exact List.mem_flatMap.2 ⟨d,E7 c,B8.2 ⟨u,a,rfl⟩⟩
theorem allU_len(l:List Df):(allU l).length<=l.length*1000000000:=by
 induction l with
 |nil=>exact A7 _
 |cons d r ih=>
  unfold allU at*;rw[List.flatMap_cons,A6,B3,E5];have a:=BX (parseS d.text).1;have b:=rA d.text;omega
theorem muS_nil(U:List bC):muS U []=U.length:=by unfold muS;rw[List.filter_eq_self.2 bB]
end
section
attribute[local simp] aR bJ bF aO aL aX aP
attribute[local simp] kH.cond Nd.d_eq nd_t nd_dr nd_td ndsD aQ bL
def q1(l:List Df)(i:Nat):Bool:=decide (firstE l (l.getD i default) i≠0)
def q2(l:List Df)(i:Nat):Bool:=decide (secondE l (bX (parseS (l.getD i default).text).1)≠0)
def q3(l:List Df)(i:Nat):Bool:=decide ((l.getD i default).name∈reachR l (l.getD i default).name true)
def chkR3(l:List Df):Int×Int:=match dQ (q3 l) l.length with
 |some i=>((i:Int),13)
 |none=>((l.length:Int),0)
def chkR2(l:List Df):Int×Int:=match dQ (q2 l) l.length with
 |some i=>((i:Int),secondE l (bX (parseS (l.getD i default).text).1))
 |none=>chkR3 l
def chkR1(l:List Df):Int×Int:=match dQ (q1 l) l.length with
 |some i=>((i:Int),firstE l (l.getD i default) i)
 |none=>chkR2 l
def chkR(l:List Df):Int×Int:=if 24<l.length then(0,4)else chkR1 l
theorem RSameDefs_ok(a b:List Df)(m:a.length<=1000000000000):Ok prog 39 [fT a,fT b] ⟨.d (.bool (decide (a=b))),true⟩:=by
 refine bT func39 rfl ntmps39 results39 λn X k=>?_;apply aD;simp;apply aF;apply bE;simp;refine⟨λh=>?_,λh=>?_⟩
 .apply aD;simp;apply aH;simp;exact λe=>h (by rw[e])
 .apply aG;simp;apply eP;simp;apply aW;refine aZ (ι:=Nat) (λi=>bA [(0,.d (fT a)),(1,.d (fT b)),(5,.d (aI (i:Nat)))]) (λi=>aK []) (λi=>i<=a.length/\a.take i=b.take i) (λi=>a.length-i) 0 (aA k [0,1,5] []) (⟨D4 _,rfl⟩) λi c=>?_;apply aF;apply bE;simp;refine⟨λl=>?_,λl=>?_⟩
  .apply aG;simp;apply eG;apply aF;have j:i<a.length:=aE;have d:i<b.length:=aE;refine fF.rd [] [] (λ_=>none) ?_;simp[j,d];apply aM;simp;refine⟨λg=>?_,λg=>?_⟩
   .apply aD;simp;apply aH;simp;intro e;subst e;simp at g
   .apply aG;simp;apply aJ;simp;refine⟨aE,?_⟩;refine On.mk (i+1) (aA k [0,1,5] []) ?_ ?_
    .refine⟨aE,?_⟩;rw[A2 j,A2 d,c.2,g]
    .omega
  .apply bP;simp;apply aD;simp;apply aH;simp;have e:i=a.length:=aE;have:=c.2;rw[e,E4]at this;have f:a.length=b.length:=aE;rw[this,f,E4]
theorem folF_in(a:List Nd)(b:Int->Bool):∀(f i:Nat) (M:List Nat),M.Nodup->(∀k∈M,k<a.length)->(gS a b f i M).Nodup/\∀k∈gS a b f i M,k<a.length
 |0,_,_,hn,g=>⟨hn,g⟩
 |f+1,i,M,hn,g=>by
  rw[BP];have m:∀(j:List cY) (M:List Nat),M.Nodup->(∀k∈M,k<a.length)->(j.foldl (kF a b (gS a b f)) M).Nodup/\∀k∈j.foldl (kF a b (gS a b f)) M,k<a.length:=λj=>by
   induction j with
   |nil=>exact λM c d=>⟨c,d⟩
   |cons u r ihu=>
    intro M c d;rw[C6];have n:(kF a b (gS a b f) M u).Nodup/\∀k∈kF a b (gS a b f) M u,k<a.length:=by
     unfold kF;split
     .rename_i k g;split
      .rename_i p;refine folF_in a b f k (M++[k]) ?_ λs l=>?_
       .rw[E2];exact⟨c,bB,λx q y o e=>by simp at o;subst o;subst e;exact p.2 q⟩
       .rcases F9.1 l with h|h
        .exact d s h
        .simp at h;subst h;exact wH g
      .exact⟨c,d⟩
     .exact⟨c,d⟩
    exact ihu _ n.1 n.2
  exact m _ M hn g
theorem reachI_in(a:List Nd)(b:Int->Bool)(i:Nat):(jJ a b i).Nodup/\∀k∈jJ a b i,k<a.length:=folF_in a b _ i [] H9 bB
def allB(_:Int):Bool:=true
def restK(i:Nat)(S:List Nat):List Nat:=S.filter λk=>decide (k≠i)
def sliceAt(l:List Df)(ts:List Nd)(i:Nat):List Df:=l.getD i default::(restK i (jJ ts allB i)).map λk=>l.getD k default
def sliceP(l:List Df)(name:bC):List Df×Int:=
 if(mD l).2.2≠0 then([],(mD l).2.2)
 else match pB (mD l).1 name with
  |none=>([],6)
  |some i=>(bV (sliceAt l (mD l).1 i),0)
theorem restK_len{n i:Nat}{S:List Nat}(b:S.Nodup)(c:∀k∈S,k<n)(e:i<n):(restK i S).length<n:=by
 have d:(i::restK i S).Nodup:=D2.2 ⟨λh=>by simp[restK]at h,b.filter _⟩;have:=Ey d (m:=I6 n) λk a=>by
  rcases B4.1 a with rfl|a
  .exact B6.2 e
  .exact B6.2 (c k (D8.1 a).1)
 rw[E5,List.length_range]at this;omega
theorem nodup_injM{α β:Type}{f:α->β}:∀{l:List α},(l.map f).Nodup->∀a∈l,∀b∈l,f a=f b->a=b
 |x::l,h,a,ha,b,hb,e=>by
  obtain⟨j,k⟩:=D2.1 h;rcases B4.1 ha with i|d
  .rcases B4.1 hb with g|c
   .rw[i,g]
   .exact absurd (B8.2 ⟨b,c,by rw[<-e,i]⟩) j
  .rcases B4.1 hb with g|c
   .exact absurd (B8.2 ⟨a,d,by rw[e,g]⟩) j
   .exact nodup_injM k a d b c e
theorem sortD_uniq{l m:List Df}(c:l.Perm m)(h:(l.map Df.name).Nodup):bV l=bV m:=by
 refine List.Perm.eq_of_pairwise (le:=λa b:Df=>a.name<=b.name) (λa b f g d e=>?_) (pS l) (pS m) (((nT l).trans c).trans (nT m).symm);exact nodup_injM h a ((nT l).mem_iff.1 f) b (c.mem_iff.2 ((nT m).mem_iff.1 g)) (H4 d e)
theorem rdF_names:∀(l:List Df) (a:List Nd),(Dn a l).2.2=0->(a.map Nd.text).Nodup->(Dn a l).1.map Nd.text=a.map Nd.text++l.map Df.name/\((Dn a l).1.map Nd.text).Nodup
 |[],a,_,h=>⟨by simp[Dn],by simpa [Dn]using h⟩
 |d::r,a,he,h=>by
  by_cases e:Io a d=0
  .rw[Iq e]at he|-;have f:(parseS d.text).1.text=d.name/\pB a d.name=none:=by
    unfold Io at e;split at e
    .exact absurd e (by assumption)
    .split at e
     .cases e
     .rename_i b;split at e
      .cases e
      .rename_i c;exact⟨A8 b,by cases q:pB a d.name with
        |none=>rfl
        |some j=>exact absurd (.inl (by rw[q];rfl)) c⟩
   obtain⟨b,c⟩:=rdF_names r (a++[(parseS d.text).1]) he (by
    rw[C5,E2];refine⟨h,bB,λx k y m e=>?_⟩;simp at m;subst m;subst e;rw[f.1]at k;obtain⟨t,g,i⟩:=B8.1 k;have:=f.2;unfold pB at this;rw[B1]at this;have:=this t g;simp[i]at this)
   refine⟨?_,c⟩;rw[b,C5];simp[f.1]
  .rw[uG e]at he;exact absurd he e
theorem readP_names{l:List Df}(h:(dS l).2.2=0):(dS l).1.map Nd.text=l.map Df.name/\(l.map Df.name).Nodup:=by
 unfold dS at h|-;split at h
 .cases h
 .rename_i a;rw[if_neg a];obtain⟨b,c⟩:=rdF_names l [] h bB;exact⟨by simpa using b,by rw[b]at c;simpa using c⟩
theorem chkP_ok{l:List Df}(h:(mD l).2.2=0):(dS l).2.2=0:=by
 unfold mD at h;split at h
 .exact h
 .rename_i a;exact A8 a
theorem perm_erase{α:Type}{l:List α}{j:Nat}(h:j<l.length):l.Perm (l[j]::l.eraseIdx j):=by
 have e:l=l.take j++l[j]::l.drop (j+1):=by
  have:=C8 j l;rw[D6 h]at this;exact this.symm
 have a:l.eraseIdx j=l.take j++l.drop (j+1):=B5 ..;rw[a]
 conv=>lhs;rw[e]
 exact List.perm_middle
theorem nkD_get{S:List Nat}{j:Nat}(h:j<(AY S).length):(AY S)[j]=aI ((S[j]'(by simpa [AY]using h):Nat):Int):=by simp[AY]
theorem nkD_erase(S:List Nat)(j:Nat):(AY S).eraseIdx j=AY (S.eraseIdx j):=by
 unfold AY;rw[B5,B5,C5,I2,I3]
theorem trD_erase(S:List Nat)(j:Nat):(FL S).eraseIdx j=FL (S.eraseIdx j):=by
 unfold FL;rw[B5,B5,C5,I2,I3]
theorem ren_it{σ:List (Nat×Nat)}{n id:Nat}:ren σ (n+1) (.it id)=match dN σ id with|some j=>.it j|none=>.junk:=rfl
attribute[local simp] nkD_erase trD_erase ren_it
theorem restK_erase{S:List Nat}{i j:Nat}(h:j<S.length):(restK i S).Perm (if S[j]=i then restK i (S.eraseIdx j)else S[j]::restK i (S.eraseIdx j)):=by
 have:=(perm_erase h).filter λk=>decide (k≠i);refine List.Perm.trans this ?_;by_cases e:S[j]=i
 .rw[if_pos e,D9 (by simpa using e)];exact List.Perm.refl _
 .rw[if_neg e,E0 (by simpa using e)];exact List.Perm.refl _
theorem names_nodup{l:List Df}(h:(l.map Df.name).Nodup):∀{S:List Nat},S.Nodup->(∀k∈S,k<l.length)->((S.map λk=>l.getD k default).map Df.name).Nodup
 |[],_,_=>bB
 |a::S,hn,hk=>by
  obtain⟨m,n⟩:=D2.1 hn;rw[D7,D7,D2];refine⟨λj=>?_,names_nodup h n λk g=>hk k (B0 _ g)⟩;rw[H1]at j;obtain⟨b,i,e⟩:=B8.1 j;have d:=hk a (B2 ..);have c:=hk b (B0 _ i);simp only[Function.comp,A1,A0 d,A0 c,F8]at e;have this:=D0.1 h;have f:a≠b:=λq=>m (q▸i);rcases Nat.lt_or_gt_of_ne f with q|q
  .exact this a b (by simpa using d) (by simpa using c) q (by simpa using e.symm)
  .exact this b a (by simpa using c) (by simpa using d) q (by simpa using e)
theorem sliceAt_eq(l:List Df)(ts:List Nd)(i:Nat):sliceAt l ts i=(i::restK i (jJ ts allB i)).map λk=>l.getD k default:=rfl
theorem sliceAt_names{l:List Df}{ts:List Nd}{i:Nat}(h:(l.map Df.name).Nodup)(e:ts.length=l.length)(d:i<ts.length):((sliceAt l ts i).map Df.name).Nodup:=by
 obtain⟨b,c⟩:=reachI_in ts allB i;rw[sliceAt_eq];refine names_nodup h (D2.2 ⟨λh=>by simp[restK]at h,b.filter _⟩) λk a=>?_;rcases B4.1 a with rfl|a
 .omega
 .have:=c k (D8.1 a).1;omega
theorem Slice_ok(l:List Df)(b:bC)(hl:l.length<40):Ok prog 38 [fT l,.str b] ⟨.tup [.own 2 ((sliceP l b).1.map Df.d),.d (aI (sliceP l b).2)],true⟩:=by
 refine Ok.two func38 iY (c:=_) rfl ntmps38 bB results38 rfl λw0 X M=>?_;obtain⟨C,W⟩:∃C,mD l=C:=⟨_,rfl⟩;obtain⟨d,E⟩:∃d,C.1=d:=⟨_,rfl⟩;have P:=EY l;have g:sliceP l b=if C.2.2≠0 then([],C.2.2)else match pB d b with|none=>([],6)|some i=>(bV (sliceAt l d i),0):=by rw[<-E,<-W];rfl
 have p:=Fh l;have v:=chkP_ok (l:=l);have U:=rB l;rw[W]at P v p;rw[E]at P p;rw[<-p]at U;have hw:∀t∈d,weighN t<=1000000000:=λt ht=>by obtain⟨s,rfl⟩:=U.1 t ht;exact rA s
 apply aD;simp;refine dH (og 15 (.plain ⟨.tup [.d (Ac d),.d (aI C.2.1),.d (aI C.2.2)],false⟩)) ?_;simp[bM];refine⟨⟨by simpa using P,by simp[Ac]⟩,?_⟩;simp[Ac];apply aF;apply bE;simp;refine⟨λG=>?_,λG=>?_⟩
 .rw[if_pos G]at g;apply aD;simp;apply aH;simp[g]
 .have q:C.2.2=0:=by simpa using G
  rw[if_neg (by simpa using q)]at g;have B:=(U.2.2 (v q)).2.1;apply aG;simp;apply aD;simp[Id,bM];apply aF;apply bE;simp;refine⟨λV=>?_,λV=>?_⟩
  .have hn:pB d b=none:=by simpa using V
   rw[hn]at g;dsimp only at g;apply aD;simp;apply aH;simp[g]
  .obtain⟨i,I⟩:∃i,pB d b=some i:=by cases h:pB d b<;>simp_all
   rw[I]at g;dsimp only at g;have r:i<d.length:=wH I;have z:Xy d b=(i:Nat):=by unfold Xy;rw[I];rfl
   have x:=reachI_in d allB i;apply aG;simp;apply aD;simp[z,(show i<l.length by omega)];apply fE;have Q:=EA d allB 105 i hw (λk=>RJ k) r;refine bG (og 38 (.plain ⟨.d (.mp (AY (jJ d allB i)) (FL (jJ d allB i))),false⟩)) ?_;simp[z];refine⟨by simpa [Ac]using Q,?_⟩;apply aW;refine aZ (ι:=List Nat×List Df) (λ⟨S,a⟩=>bA [(0,.d (fT l)),(9,.d (aI (i:Nat))),(11,.ow 35 0 a.length),(39,.it 39)]) (λ⟨S,a⟩=>aK [(35,.row false 2 (a.map Df.d)),(39,.iter false (AY S) (FL S))]) (λ⟨S,a⟩=>(a++(restK i S).map λk=>l.getD k default).Perm (sliceAt l d i)/\(∀k∈S,k<l.length)) (λ⟨S,a⟩=>S.length) (jJ d allB i,[l.getD i default]) (aA M [0,9,11,39] [(35,35),(39,39)] (hH:=by simp[A0 (show i<l.length by omega)])) (⟨by simp[sliceAt],λk J=>by have:=x.2 k J;omega⟩) λ⟨S,a⟩ e=>?_;obtain⟨e,f⟩:=e;have L:a.length<40:=by
    have Z:=e.length_eq;have e2:=restK_len x.1 x.2 r;simp only[sliceAt_eq,A6,B3,E5]at Z;omega
   refine HO (it:=39) (id:=39) (ks:=AY S) (vs:=FL S) rfl rfl rfl rfl rfl rfl rfl rfl rfl rfl rfl rfl rfl rfl rfl bK bK bB bB (λJ=>?_) (λj hj=>?_)
   .have H:S=[]:=by simpa [AY]using J
    subst H;simp;apply aF;have N:a.Perm (sliceAt l d i):=by simpa [restK]using e
    have ks:=Dq a L;have Y:bV a=bV (sliceAt l d i):=by
     have K:=sliceAt_names (ts:=d) (i:=i) (readP_names (v q)).2 B r;exact(sortD_uniq N.symm K).symm
    refine bG (og 55 (.plain ⟨.own 2 ((bV a).map Df.d),true⟩)) ?_;simp;refine⟨by simpa using ks,?_⟩;apply aH;have y:=fR a;have D:F3 a.length (D1 Df.d (bV a))=D1 Df.d (bV a):=A4 (by rw[B3,y];exact A7 _);rw[Y]at y D;simp[g,Y,y,D]
   .have m:j<S.length:=by simpa [AY]using hj
    obtain⟨k,n⟩:∃k,S[j]=k:=⟨_,rfl⟩;have A:k<l.length:=f k (by rw[<-n];exact A9 m);have o:=restK_erase (i:=i) m;simp[nkD_get,n];apply bE;simp;refine⟨λF=>?_,λF=>?_⟩
    .apply aJ;simp[A];refine⟨aE,?_⟩;refine On.mk (S.eraseIdx j,a++[l[k]]) (aA M [0,9,11,39] [(53,35),(39,39)]) ?_ ?_
     .refine⟨?_,λO u=>f O ((G3 S j).subset u)⟩;rw[n,if_neg aE]at o;have w:=(o.map λk=>l.getD k default).append_left a;refine List.Perm.trans ?_ (w.symm.trans e);simp[A0 A]
     .have:=F5 m;show(S.eraseIdx j).length<S.length;omega
    .apply aG;simp;refine On.mk (S.eraseIdx j,a) (aA M [0,9,11,39] [(35,35),(39,39)]) ?_ ?_
     .refine⟨?_,λO u=>f O ((G3 S j).subset u)⟩;rw[n,if_pos aE]at o;have w:=(o.map λk=>l.getD k default).append_left a;exact w.symm.trans e
     .have:=F5 m;show(S.eraseIdx j).length<S.length;omega
end
theorem bC.sto:STO (λa b:bC=>Op.bytesLess a b):=by
 refine⟨λa=>?_,λa b c d e=>?_,λa b d e=>?_⟩
 .rw[bytesLess_eq,decide_eq_false_iff_not];exact List.lt_irrefl a
 .rw[bytesLess_eq,decide_eq_true_eq]at*;exact List.lt_trans d e
 .rw[bytesLess_eq,decide_eq_false_iff_not,G4]at d e;exact H4 e d
theorem dedup_sub{α:Type}[DecidableEq α]:∀l:List α,(eV l).Sublist l
 |a::b::r=>by
  have c:=dedup_sub (b::r);simp only[eV];split
  .exact c.cons _
  .exact c.cons_cons _
 |[]=>List.Sublist.refl _
 |[_]=>List.Sublist.refl _
theorem dedup_nodup{α:Type}[DecidableEq α]:∀{l:List α},l.Nodup->eV l=l
 |a::b::r,h=>by
  have c:=D2.1 h;simp only[eV];rw[if_neg (λe=>c.1 (by rw[e];exact B2 ..)),dedup_nodup c.2]
 |[],_=>rfl
 |[_],_=>rfl
theorem rising_nodup{α:Type}{c:α->α->Bool}(O:STO c){l:List α}(h:fK c l):l.Nodup:=h.imp λ{a b} h e=>by subst e;rw[O.irrefl]at h;cases h
theorem doubles{f:List bC}:(eV (eE f)).length<f.length↔¬f.Nodup:=by
 have c:(eE f).Perm f:=F2 f _;have g:=jU f;constructor
 .intro h j;rw[dedup_nodup (c.nodup_iff.2 j),g]at h;exact Nat.lt_irrefl _ h
 .intro h;refine A8 λk=>h ?_;have i:=uA (eE f);have e:eV (eE f)=eE f:=(dedup_sub (eE f)).eq_of_length aE;have d:fK (λa b:bC=>Op.bytesLess a b) (eV (eE f)):=pQ bC.sto ((pP f).imp λ{a b} h=>by
   rw[bytesLess_eq,decide_eq_false_iff_not,G4];exact h)
  rw[e]at d;exact c.nodup_iff.1 (rising_nodup bC.sto d)
def treeD(d:Df):Nd:=(parseS d.text).1
theorem idx_before{l:List Df}{b:List Nd}{i:Nat}{d:Df}(p:l[i]? =some d)(t:b.map Nd.text=(l.take i).map Df.name):kG l d.name<(i:Int)↔(pB b d.name).isSome=true:=by
 obtain⟨v,u⟩:=C9.1 p;have x:b.length=i:=by have:=congrArg I5 t;simpa [Nat.min_eq_left (Nat.le_of_lt v)]using this
 have c:∀j (g:j<b.length),b[j].text=(l[j]'aE).name:=λj g=>by
  have:=congrArg (·[j]?) t;simpa [A0 g,List.getElem?_take,show j<i by omega,A0 (show j<l.length by omega)]using this
 cases q:l.findIdx? (λe=>decide (e.name=d.name))with
 |none=>
  rw[B1]at q;have:=q d (E7 p);simp at this
 |some j=>
  have e:kG l d.name=(j:Nat):=by unfold kG;rw[mM,q];rfl
  obtain⟨g,f,m⟩:=A3.1 q;rw[e];constructor
  .intro h;have w:j<i:=aE;cases r:pB b d.name with
   |some _=>rfl
   |none=>
    unfold pB at r;rw[B1]at r;have:=r b[j] (A9 aE);rw[c j aE]at this;simp at f this;exact absurd f.symm this
  .intro h;obtain⟨k,s⟩:=Option.isSome_iff_exists.1 h;unfold pB at s;obtain⟨n,a,_⟩:=A3.1 s;simp at a;rw[c k n]at a;have:¬k<j:=λo=>by
    have:=m k o;simp[a]at this
   omega
theorem rdE_first{l:List Df}{k:List Nd}{i:Nat}{d:Df}(m:l[i]? =some d)(n:k.map Nd.text=(l.take i).map Df.name):Io k d=firstE l d i:=by
 unfold Io firstE;have g:=idx_before m n;have j:=doubles (f:=cR (parseS d.text).1);by_cases a:(parseS d.text).2.2≠0
 .rw[if_pos a,if_pos a]
 .rw[if_neg a,if_neg a];by_cases b:(parseS d.text).1.text≠d.name
  .rw[if_pos b,if_pos b]
  .rw[if_neg b,if_neg b];by_cases c:kG l d.name<(i:Int)
   .rw[if_pos c,if_pos (.inl (g.1 c))]
   .rw[if_neg c];by_cases e:(cR (parseS d.text).1).Nodup
    .rw[if_pos e,if_neg];rintro(h|h)
     .exact c (g.2 h)
     .exact j.1 h e
    .rw[if_neg e,if_pos (.inr (j.2 e))]
theorem rdE_text{b:List Nd}{d:Df}(e:Io b d=0):(treeD d).text=d.name:=by
 unfold Io at e;split at e
 .exact absurd e (by assumption)
 .split at e
  .cases e
  .rename_i a;exact A8 a
theorem rdF_first{l:List Df}:∀(m i:Nat) (a:List Nd),i+m=l.length->a=(l.take i).map treeD->a.map Nd.text=(l.take i).map Df.name->(∀j<i,q1 l j=false)->
 (match dQ (q1 l) l.length with|some k=>(Dn a (l.drop i)).2=((k:Int),firstE l (l.getD k default) k)/\(Dn a (l.drop i)).2.2≠0|none=>Dn a (l.drop i)=(l.map treeD,(l.length:Int),0))
 |0,i,a,hm,ht,_,hq=>by
  have b:i=l.length:=aE;subst b;rw[wP hq,List.drop_length,Dn,ht,E4];simp
 |m+1,i,a,hm,ht,hn,hq=>by
  have b:i<l.length:=aE;have o:l[i]? =some l[i]:=A0 b;have f:l.getD i default=l[i]:=by rw[A1,o];rfl
  have e:=rdE_first o hn;rw[D6 b];by_cases c:firstE l l[i] i=0
  .have h:q1 l i=false:=by unfold q1;rw[f];simpa using c
   have n:=rdE_text (e.trans c);have d:l.take (i+1)=l.take i++[l[i]]:=A2 b;have r:=rdF_first (l:=l) m (i+1) (a++[treeD l[i]]) aE (by rw[d,C5,ht];rfl) (by rw[d,C5,C5,hn];simp[n]) λj g=>by
    rcases Nat.lt_succ_iff_lt_or_eq.1 g with g|rfl
    .exact hq j g
    .exact h
   rw[Iq (e.trans c)];exact r
  .have p:dQ (q1 l) l.length=some i:=wO b hq (by unfold q1;rw[f];simpa using c);rw[p,uG (by rw[e];exact c),e];have q:a.length=i:=by rw[ht];simp;omega
   simp only[f,q];exact⟨trivial,c⟩
theorem readP_first{l:List Df}(h:l.length<=24):(match dQ (q1 l) l.length with|some k=>(dS l).2=((k:Int),firstE l (l.getD k default) k)/\(dS l).2.2≠0|none=>dS l=(l.map treeD,(l.length:Int),0)):=by
 have:=rdF_first (l:=l) l.length 0 [] aE bB bB (λj h=>absurd h (G0 _));unfold dS;rw[if_neg aE];simpa using this
def combE(a b:Int):Int:=if b=0 then a else jI a b
def clsB(a b c:Bool):Int:=if a=true then 6 else if b=true then 12 else if c=true then -1 else 0
def clsE(e:cY->Int)(us:List cY):Int:=clsB (us.any λu=>decide (e u=6)) (us.any λu=>decide (e u=12)) (us.any λu=>decide (e u= -1))
theorem combE_four{a b:Int}(c:pG a)(d:pG b):pG (combE a b):=by
 rcases c with rfl|rfl|rfl|rfl<;>rcases d with rfl|rfl|rfl|rfl<;>simp[combE,jI,JP,pG]
theorem combE_assoc{a b c:Int}(d:pG a)(e:pG b)(f:pG c):combE (combE a b) c=combE a (combE b c):=by
 rcases d with rfl|rfl|rfl|rfl<;>rcases e with rfl|rfl|rfl|rfl<;>rcases f with rfl|rfl|rfl|rfl<;>decide
theorem clsB_four(a b c:Bool):pG (clsB a b c):=by cases a<;>cases b<;>cases c<;>simp[clsB,pG]
theorem clsE_four(e:cY->Int)(a:List cY):pG (clsE e a):=clsB_four _ _ _
theorem clsE_cons{e:cY->Int}{u:cY}{d:List cY}(h:pG (e u)):clsE e (u::d)=combE (e u) (clsE e d):=by
 unfold clsE;simp only[G6];generalize d.any (λu=>decide (e u=6))=a;generalize d.any (λu=>decide (e u=12))=b;generalize d.any (λu=>decide (e u= -1))=c;generalize e u=x at*;rcases h with rfl|rfl|rfl|rfl<;>cases a<;>cases b<;>cases c<;>decide
theorem misF_cls(a:List Nd)(b:List cY):BN a b=clsE (iM a) b:=by
 have e:∀(b:List cY) (o:Int),pG o->b.foldl (λc u=>if iM a u=0 then c else jI c (iM a u)) o=combE o (clsE (iM a) b):=λb=>by
  induction b with
  |nil=>intro o _;simp[clsE,clsB,combE]
  |cons u r ih=>
   intro o f;have d:=BO a u;have g:(if iM a u=0 then o else jI o (iM a u))=combE o (iM a u):=rfl;rw[C6,g,ih _ (combE_four f d),combE_assoc f d (clsE_four _ r),clsE_cons d]
 have:=e b 0 (.inl rfl);rw[BN,this];rcases clsE_four (iM a) b with h|h|h|h<;>rw[h]<;>decide
theorem atN_find{l:List Df}{b:List Nd}(h:b.map Nd.text=l.map Df.name)(a:bC):pB b a=l.findIdx? λd=>decide (d.name=a):=by
 have c:(b.map Nd.text).findIdx? (λs=>decide (a=s))=b.findIdx? (λt=>decide (a=t.text)):=by rw[H2];rfl
 have e:(l.map Df.name).findIdx? (λs=>decide (a=s))=l.findIdx? (λd=>decide (a=d.name)):=by rw[H2];rfl
 unfold pB;rw[<-c,h,e];congr 1;funext d;simp[eq_comm]
theorem idxN_at{l:List Df}{ts:List Nd}(h:ts.map Nd.text=l.map Df.name)(a:bC):kG l a=pU (pB ts a):=by
 rw[atN_find h];unfold kG;rw[mM]
theorem tAt_at{l:List Df}(h:(l.map treeD).map Nd.text=l.map Df.name){d:bC}{j:Nat}(c:pB (l.map treeD) d=some j):tAt l d=(l.map treeD).getD j default:=by
 have a:=wH c;have b:j<l.length:=by simpa using a
 unfold tAt;rw[idxN_at h,c];simp only[pU,E3];rw[A1,A1,A0 b,A0 a,F8,F8,C0];rfl
theorem any_congr'{a:List cY}{p q:cY->Bool}(h:∀u∈a,p u=q u):a.any p=a.any q:=by
 induction a with
 |nil=>rfl
 |cons u r ih=>rw[G6,G6,h u (B2 ..),ih λv b=>h v (B0 _ b)]
theorem mis_second{l:List Df}(h:(l.map treeD).map Nd.text=l.map Df.name)(x:Nd):FI (l.map treeD) x=secondE l (bX x):=by
 have k:∀u,p1 l u=decide (iM (l.map treeD) u=6):=λu=>by
  unfold p1 iM;rw[idxN_at h];cases b:pB (l.map treeD) u.name with
  |none=>simp[pU]
  |some j=>
   simp only[pU];have:¬((j:Int)<0):=aE;split
   .simp[this]
   .split<;>simp[this]
 have n:∀u j,pB (l.map treeD) u.name=some j->iM (l.map treeD) u=if((l.map treeD).getD j default).kind≠u.kind then 12 else if u.kind=1/\u.field∉cR ((l.map treeD).getD j default)then -1 else 0:=λu j b=>by unfold iM;rw[b]
 have m:∀u,p1 l u=false->p2 l u=decide (iM (l.map treeD) u=12):=λu a=>by
  unfold p1 at a;rw[idxN_at h]at a;unfold p2;cases b:pB (l.map treeD) u.name with
  |none=>rw[b]at a;simp[pU]at a
  |some j=>
   rw[tAt_at h b,n u j b];generalize(l.map treeD).getD j default=y;by_cases f:y.kind≠u.kind
   .rw[if_pos f];simp[f]
   .rw[if_neg f];by_cases d:u.kind=1/\u.field∉cR y
    .rw[if_pos d];simpa using f
    .rw[if_neg d];simpa using f
 have r:∀u,p1 l u=false->p2 l u=false->p3 l u=decide (iM (l.map treeD) u= -1):=λu a e=>by
  unfold p1 at a;rw[idxN_at h]at a;unfold p2 at e;unfold p3;cases b:pB (l.map treeD) u.name with
  |none=>rw[b]at a;simp[pU]at a
  |some j=>
   rw[tAt_at h b]at e|-;rw[n u j b];generalize(l.map treeD).getD j default=y at*;rw[if_neg (by simpa using e)];by_cases d:u.kind=1/\u.field∉cR y
   .rw[if_pos d];simp only[d,not_false_eq_true,and_self]
   .rw[if_neg d,decide_eq_false d];rfl
 unfold FI;rw[misF_cls];unfold clsE clsB secondE;rw[any_congr' (p:=p1 l) λu _=>k u];by_cases i:(bX x).any (λu=>decide (iM (l.map treeD) u=6))=true
 .simp only[i,if_true];decide
 .have g:∀u∈bX x,p1 l u=false:=λu a=>by
   rw[k];have:=λq=>i (E6.2 ⟨u,a,q⟩);simpa using this
  rw[any_congr' (p:=p2 l) λu a=>m u (g u a)];simp only[if_neg i];by_cases c:(bX x).any (λu=>decide (iM (l.map treeD) u=12))=true
  .simp only[c,if_true];decide
  .have s:∀u∈bX x,p2 l u=false:=λu a=>by
    rw[m u (g u a)];have:=λq=>c (E6.2 ⟨u,a,q⟩);simpa using this
   rw[any_congr' (p:=p3 l) λu a=>r u (g u a) (s u a)];simp only[if_neg c];by_cases o:(bX x).any (λu=>decide (iM (l.map treeD) u= -1))=true
   .simp only[o,if_true]
   .simp only[if_neg o];decide
inductive RchG{α:Type}(S:α->α->Prop):α->α->Prop
 |one {i k:α}:S i k->RchG S i k
 |more {i j k:α}:RchG S i j->S j k->RchG S i k
theorem RchG.head{α:Type}{S:α->α->Prop}{i j k:α}(h:S i j)(r:RchG S j k):RchG S i k:=by
 induction r with
 |one h2=>exact .more (.one h) h2
 |more _ h2 ih=>exact .more ih h2
def StepI(ts:List Nd)(b:Int->Bool)(i k:Nat):Prop:=∃u∈bX (ts.getD i default),b u.bk=true/\pB ts u.name=some k
theorem folF_reach(a:List Nd)(b:Int->Bool):∀(f i:Nat) (M:List Nat),RH a.length M<f->
 (∀k∈gS a b f i M,k∈M\/RchG (StepI a b) i k)/\(∀k,StepI a b i k->k∈gS a b f i M)/\∀j∈gS a b f i M,j∉M->∀k,StepI a b j k->k∈gS a b f i M
 |0,_,_,h=>absurd h (G0 _)
 |f+1,i,M,h=>by
  rw[BP];have G:∀(s:List cY) (m:List Nat),(∀u∈s,u∈bX (a.getD i default))->RH a.length m<f+1->
   (∀k∈s.foldl (kF a b (gS a b f)) m,k∈m\/RchG (StepI a b) i k)/\(∀u∈s,∀k,b u.bk=true->pB a u.name=some k->k∈s.foldl (kF a b (gS a b f)) m)/\
   ∀j∈s.foldl (kF a b (gS a b f)) m,j∉m->∀k,StepI a b j k->k∈s.foldl (kF a b (gS a b f)) m:=λs=>by
   induction s with
   |nil=>exact λm _ _=>⟨λk g=>.inl g,bB,λj c p=>absurd c p⟩
   |cons u r ihr=>
    intro m w O;rw[C6];obtain⟨n,d⟩:∃n,kF a b (gS a b f) m u=n:=⟨_,rfl⟩;have A:∀k∈m,k∈n:=λk g=>by rw[<-d];exact Ah a b f m u k g
    have F:RH a.length n<f+1:=Nat.lt_of_le_of_lt (Vg A) O;obtain⟨P,Q,S⟩:=ihr n (λv B=>w v (B0 _ B)) F;have o:∀k∈n,k∈r.foldl (kF a b (gS a b f)) n:=λk g=>rN (Ah a b f) r n k g;have q:(∀k∈n,k∈m\/RchG (StepI a b) i k)/\(∀k,b u.bk=true->pB a u.name=some k->k∈n)/\∀j∈n,j∉m->∀k,StepI a b j k->k∈n:=by
     unfold kF at d;split at d
     .rename_i k g;split at d
      .rename_i D;have z:StepI a b i k:=⟨u,w u (B2 ..),D.1,g⟩;obtain⟨H,I,J⟩:=folF_reach a b f k (m++[k]) (by have:=Vh (wH g) D.2;omega);have E:k∈n:=by rw[<-d];exact Ag a b f k _ k bB
       rw[d]at H I J;refine⟨λj c=>?_,λC _ l=>?_,λj c p C y=>?_⟩
       .rcases H j c with c|c
        .rcases F9.1 c with c|c
         .exact .inl c
         .simp at c;subst c;exact .inr (.one z)
        .exact .inr (.head z c)
       .rw[g]at l;injection l with e;subst e;exact E
       .by_cases e:j=k
        .subst e;exact I C y
        .exact J j c (by simp[p,e]) C y
      .rename_i D;subst d;refine⟨λj c=>.inl c,λC t l=>?_,λj c p=>absurd c p⟩;rw[g]at l;injection l with e;subst e
       exact A8 λp=>D ⟨t,p⟩
     .rename_i g;subst d;exact⟨λj c=>.inl c,λC _ l=>(by rw[g]at l;cases l),λj c p=>absurd c p⟩
    rw[d];refine⟨λk g=>?_,λv B k t g=>?_,λj c p k y=>?_⟩
    .rcases P k g with h|h
     .exact q.1 k h
     .exact .inr h
    .rcases B4.1 B with rfl|B
     .exact o k (q.2.1 k t g)
     .exact Q v B k t g
    .by_cases x:j∈n
     .exact o k (q.2.2 j x p k y)
     .exact S j c x k y
  obtain⟨K,L,N⟩:=G (bX (a.getD i default)) M (λu w=>w) h;exact⟨K,λk ⟨u,w,t,g⟩=>L u w k t g,N⟩
theorem reachI_iff(a:List Nd)(b:Int->Bool)(i k:Nat):k∈jJ a b i↔RchG (StepI a b) i k:=by
 obtain⟨c,d,e⟩:=folF_reach a b (a.length+1) i [] (Nat.lt_succ_of_le (G9 (G1 _ _) bB));constructor
 .intro h;rcases c k h with h|h
  .cases h
  .exact h
 .intro h;induction h with
  |one hs=>exact d _ hs
  |more _ hs ih=>exact e _ ih bB _ hs
def StepN(l:List Df)(c:Bool)(nm s:bC):Prop:=0<=kG l nm/\∃u∈bX (tAt l nm),cbR c u.bk=true/\u.name=s
structure BfsI(l:List Df)(c:Bool)(name:bC)(n:Nat)(st:List bC×List bC):Prop where
 reach:∀s∈st.1,RchG (StepN l c) name s
 todo:∀s,s∈st.2↔s=name\/s∈st.1
 done:∀j,j<n->∀nm,st.2[j]? =some nm->∀s,StepN l c nm s->s∈st.1
theorem bfsS_keep{c:Bool}{st:List bC×List bC}{u:cY}:(∀s∈st.1,s∈(bfsS c st u).1)/\st.2<+:(bfsS c st u).2/\(∀s∈(bfsS c st u).1,s∈st.1\/(cbR c u.bk=true/\s=u.name))/\(cbR c u.bk=true->u.name∈(bfsS c st u).1)/\∀s,s∈(bfsS c st u).2↔s∈st.2\/(s∈(bfsS c st u).1/\s∉st.1):=by
 unfold bfsS;split
 .rename_i h;refine⟨λs a=>mem_putS.2 (.inr a),List.prefix_append _ _,λs a=>?_,λ_=>mem_putS.2 (.inl rfl),λs=>?_⟩
  .rcases mem_putS.1 a with e|a
   .exact .inr ⟨h.1,e⟩
   .exact .inl a
  .constructor
   .intro a;rcases F9.1 a with a|a
    .exact .inl a
    .simp at a;subst a;exact .inr ⟨mem_putS.2 (.inl rfl),h.2⟩
   .rintro(a|⟨a,b⟩)
    .exact List.mem_append_left _ a
    .rcases mem_putS.1 a with e|a
     .subst e;simp
     .exact absurd a b
 .rename_i h;refine⟨λs a=>a,H5 _,λs a=>.inl a,λd=>?_,λs=>?_⟩
  .exact A8 λb=>h ⟨d,b⟩
  .constructor
   .exact λa=>.inl a
   .rintro(a|⟨a,b⟩)
    .exact a
    .exact absurd a b
theorem bfs_fold{U:List bC}{c:Bool}:∀(a:List cY) (st:List bC×List bC),(∀u∈a,u.name∈U)->BfsJ U st->
 (∀s∈st.1,s∈(a.foldl (bfsS c) st).1)/\st.2<+:(a.foldl (bfsS c) st).2/\(∀s∈(a.foldl (bfsS c) st).1,s∈st.1\/∃u∈a,cbR c u.bk=true/\u.name=s)/\(∀u∈a,cbR c u.bk=true->u.name∈(a.foldl (bfsS c) st).1)/\
   (∀s,s∈(a.foldl (bfsS c) st).2↔s∈st.2\/(s∈(a.foldl (bfsS c) st).1/\s∉st.1))/\BfsJ U (a.foldl (bfsS c) st)/\muS U (a.foldl (bfsS c) st).1+(a.foldl (bfsS c) st).2.length<=muS U st.1+st.2.length
 |[],st,_,hJ=>⟨λs b=>b,H5 _,λs b=>.inl b,bB,λs=>⟨.inl,λh=>h.elim id λh=>absurd h.1 h.2⟩,hJ,A7 _⟩
 |u::r,st,hU,hJ=>by
  obtain⟨i,k,l,m,n⟩:=bfsS_keep (c:=c) (st:=st) (u:=u);obtain⟨o,p⟩:=bfsS_J (c:=c) (hU u (B2 ..)) hJ;obtain⟨g,q,t,w,x,y,z⟩:=bfs_fold (c:=c) r (bfsS c st u) (λv d=>hU v (B0 _ d)) o;rw[C6];refine⟨λs b=>g s (i s b),k.trans q,λs b=>?_,λv d f=>?_,λs=>?_,y,G9 z p⟩
  .rcases t s b with h|⟨v,d,f,e⟩
   .rcases l s h with h|⟨f,e⟩
    .exact .inl h
    .exact .inr ⟨u,B2 ..,f,e.symm⟩
   .exact .inr ⟨v,B0 _ d,f,e⟩
  .rcases B4.1 d with rfl|d
   .exact g _ (m f)
   .exact w v d f
  .rw[x,n];constructor
   .rintro((h|⟨h1,h2⟩)|⟨h1,h2⟩)
    .exact .inl h
    .exact .inr ⟨g s h1,h2⟩
    .exact .inr ⟨h1,λh=>h2 (i s h)⟩
   .rintro(h|⟨h1,h2⟩)
    .exact .inl (.inl h)
    .by_cases j:s∈(bfsS c st u).1
     .exact .inl (.inr ⟨j,h2⟩)
     .exact .inr ⟨h1,j⟩
theorem bfsF_iff{l:List Df}{c:Bool}{d:bC}:∀(f n:Nat) (a:List bC×List bC),muS (allU l) a.1+a.2.length<f+n->n<=a.2.length->BfsJ (allU l) a->BfsI l c d n a->∀s,s∈bfsF l c f n a↔RchG (StepN l c) d s
 |0,n,a,h,hn,_,_=>aE
 |f+1,n,a,h,hn,hJ,hI=>by
  intro s;rw[bfsF];cases q:a.2[n]? with
  |none=>
   have E:a.2.length<=n:=List.getElem?_eq_none_iff.1 q;simp only;constructor
   .exact hI.reach s
   .have o:∀g,(g=d\/g∈a.1)->∀s,StepN l c g s->s∈a.1:=λg K s i=>by
     obtain⟨j,w,e⟩:=B7 ((hI.todo g).2 K);exact hI.done j aE g (by rw[A0 w,e]) s i
    intro M;induction M with
    |one i=>exact o d (.inl rfl) _ i
    |more _ i ih=>exact o _ (.inr ih) _ i
  |some g=>
   simp only;have z:n<a.2.length:=(C9.1 q).1;have m:=(hI.todo g).1 (E7 q);unfold bfsN;by_cases F:kG l g<0
   .rw[if_pos F];refine bfsF_iff f (n+1) a aE aE hJ ⟨hI.reach,hI.todo,λj w k b s i=>?_⟩ s;by_cases e:j=n
    .subst e;rw[q]at b;injection b with e;subst e;exact absurd i.1 aE
    .exact hI.done j aE k b s i
   .rw[if_neg F];obtain⟨C,r,G,H,I,J,N⟩:=bfs_fold (U:=allU l) (c:=c) (bX (tAt l g)) a (uses_allU aE) hJ;have L:=r.length_le;refine bfsF_iff f (n+1) _ aE aE J ⟨λs i=>?_,λs=>?_,λj w k b s i=>?_⟩ s
    .rcases G s i with h|⟨u,B,v,e⟩
     .exact hI.reach s h
     .have p:StepN l c g s:=⟨aE,u,B,v,e⟩;rcases m with rfl|m
      .exact .one p
      .exact .more (hI.reach g m) p
    .rw[I,hI.todo];constructor
     .rintro((h|h)|h)
      .exact .inl h
      .exact .inr (C s h)
      .exact .inr h.1
     .rintro(h|h)
      .exact .inl (.inl h)
      .by_cases D:s∈a.1
       .exact .inl (.inr D)
       .exact .inr ⟨h,D⟩
    .by_cases e:j=n
     .subst e;have x:(List.foldl (bfsS c) a (bX (tAt l g))).2[j]? =some g:=by
       obtain⟨t,A⟩:=r;rw[<-A,C2 z];exact q
      rw[x]at b;injection b with e;subst e
      obtain⟨_,u,B,v,e⟩:=i;rw[<-e];exact H u B v
     .have y:a.2[j]? =some k:=by
       obtain⟨t,A⟩:=r;rw[<-A,C2 aE]at b;exact b
      exact C s (hI.done j aE k y s i)
theorem reachR_iff(l:List Df)(c:Bool)(a s:bC):s∈reachR l a c↔RchG (StepN l c) a s:=by
 refine bfsF_iff ((allU l).length+2) 0 ([],[a]) (by rw[muS_nil];simp) (D4 _) ⟨by simp[muS_nil],rfl⟩ ⟨bB,bB,λj h=>absurd h (G0 _)⟩ s
section
theorem firstN_congr{p q:Nat->Bool}{n:Nat}(h:∀i<n,p i=q i):dQ p n=dQ q n:=by
 unfold dQ;have:∀l:List Nat,(∀i∈l,p i=q i)->l.find? p=l.find? q:=λl=>by
  induction l with
  |nil=>intro _;rfl
  |cons a r ih=>
   intro c;rw[H7,H7,c a (B2 ..),ih λi b=>c i (B0 _ b)]
 exact this _ λi b=>h i (B6.1 b)
theorem atN_name{l:List Df}(h:(l.map treeD).map Nd.text=l.map Df.name){c:bC}{k:Nat}(a:pB (l.map treeD) c=some k):∃b:k<l.length,l[k].name=c:=by
 rw[atN_find h]at a;obtain⟨b,d,_⟩:=A3.1 a;exact⟨b,by simpa using d⟩
theorem name_inj{l:List Df}(c:(l.map Df.name).Nodup){i j:Nat}(a:i<l.length)(b:j<l.length)(e:l[i].name=l[j].name):i=j:=by
 have:=D0.1 c;rcases Nat.lt_trichotomy i j with h|h|h
 .exact absurd (by rw[C0,C0];exact e) (this i j (by simpa using a) (by simpa using b) h)
 .exact h
 .exact absurd (by rw[C0,C0];exact e.symm) (this j i (by simpa using b) (by simpa using a) h)
theorem atN_own{l:List Df}(h:(l.map treeD).map Nd.text=l.map Df.name)(c:(l.map Df.name).Nodup){i:Nat}(a:i<l.length):pB (l.map treeD) l[i].name=some i:=by
 cases q:pB (l.map treeD) l[i].name with
 |none=>
  rw[atN_find h,B1]at q;have:=q l[i] (A9 a);simp at this
 |some j=>
  obtain⟨b,e⟩:=atN_name h q;rw[name_inj c b a e]
theorem callB_eq(k:Int):cbR true k=EX k:=by simp[cbR,EX]
section
variable{l:List Df} (h:(l.map treeD).map Nd.text=l.map Df.name) (hn:(l.map Df.name).Nodup) (hq:∀i<l.length,q2 l i=false)
include h hn hq
omit hq in
theorem step_to{b:Int->Bool}{c:Bool}(g:∀k,cbR c k=b k){i k:Nat}(m:i<l.length)(n:StepI (l.map treeD) b i k):∃d:k<l.length,StepN l c l[i].name l[k].name:=by
 obtain⟨u,o,j,d⟩:=n;obtain⟨a,e⟩:=atN_name h d;have f:=atN_own h hn m;refine⟨a,?_,u,?_,by rw[g];exact j,e.symm⟩
 .rw[idxN_at h,f];simp[pU]
 .rw[tAt_at h f];exact o
theorem step_from{b:Int->Bool}{c:Bool}(r:∀k,cbR c k=b k){i:Nat}{s:bC}(g:i<l.length)(w:StepN l c l[i].name s):∃k,∃o:k<l.length,s=l[k].name/\StepI (l.map treeD) b i k:=by
 obtain⟨_,u,j,f,e⟩:=w;have v:=atN_own h hn g;rw[tAt_at h v]at j;have m:=hq i g;have t:(l.map treeD).getD i default=treeD (l.getD i default):=by
  rw[A1,A1,E1,A0 g];rfl
 have a:secondE l (bX (treeD (l.getD i default)))=0:=A8 λf=>by unfold q2 at m;exact absurd (decide_eq_true f) (by unfold treeD;rw[m];simp)
 rw[<-t]at a;have n:(bX ((l.map treeD).getD i default)).any (p1 l)=false:=by
  rw[F7];intro q;unfold secondE at a;rw[if_pos q]at a;cases a
 have d:p1 l u=false:=by
  rw[List.any_eq_false]at n;simpa using n u j
 unfold p1 at d;rw[idxN_at h]at d;cases q:pB (l.map treeD) u.name with
 |none=>rw[q]at d;simp[pU]at d
 |some k=>
  obtain⟨o,p⟩:=atN_name h q;exact⟨k,o,by rw[<-e,p],u,j,by rw[<-r];exact f,q⟩
omit hq in
theorem reach_to{b:Int->Bool}{c:Bool}(f:∀k,cbR c k=b k){i k:Nat}(g:i<l.length)(m:RchG (StepI (l.map treeD) b) i k):∃d:k<l.length,RchG (StepN l c) l[i].name l[k].name:=by
 induction m with
 |one hs=>obtain⟨d,a⟩:=step_to h hn f g hs;exact⟨d,.one a⟩
 |more _ hs ih=>
  obtain⟨j,e⟩:=ih;obtain⟨d,a⟩:=step_to h hn f j hs;exact⟨d,.more e a⟩
theorem reach_from{b:Int->Bool}{c:Bool}(g:∀k,cbR c k=b k){i:Nat}{s:bC}(m:i<l.length)(o:RchG (StepN l c) l[i].name s):∃k,∃d:k<l.length,s=l[k].name/\RchG (StepI (l.map treeD) b) i k:=by
 induction o with
 |one hs=>obtain⟨k,d,e,a⟩:=step_from h hn hq g m hs;exact⟨k,d,e,.one a⟩
 |more _ hs ih=>
  obtain⟨j,n,rfl,f⟩:=ih;obtain⟨k,d,e,a⟩:=step_from h hn hq g n hs;exact⟨k,d,e,.more f a⟩
theorem cyc_eq{i:Nat}(b:i<l.length):It (l.map treeD) i=q3 l i:=by
 have d:l.getD i default=l[i]:=by rw[A1,A0 b];rfl
 unfold It q3;rw[d,decide_eq_decide,reachI_iff,reachR_iff];constructor
 .intro c;obtain⟨_,a⟩:=reach_to h hn callB_eq b c;exact a
 .intro c;obtain⟨k,f,e,a⟩:=reach_from h hn hq callB_eq b c;rw[<-name_inj hn b f e]at a;exact a
end
theorem chk_eq(l:List Df):(mD l).2=chkR l:=by
 unfold mD chkR;by_cases b:24<l.length
 .have:dS l=([],0,4):=by unfold dS;rw[if_pos b]
  rw[if_pos b,this];rfl
 .rw[if_neg b];have c:=readP_first (l:=l) aE;unfold chkR1;cases q:dQ (q1 l) l.length with
  |some k=>
   rw[q]at c;obtain⟨j,m⟩:=c;simp only;rw[if_pos m,j]
  |none=>
   rw[q]at c;simp only at c|-;have h:(dS l).2.2=0:=by rw[c]
   obtain⟨a,g⟩:=readP_names h;rw[c]at a;simp only at a;rw[if_neg (by rw[h];simp),c];simp only[B3];have n:∀i<l.length,Ir (l.map treeD) i=q2 l i:=λi d=>by
    have f:(l.map treeD).getD i default=treeD (l.getD i default):=by
     rw[A1,A1,E1,A0 d];rfl
    unfold Ir q2;rw[mis_second a,f];rfl
   rw[firstN_congr n];unfold chkR2;cases e:dQ (q2 l) l.length with
   |some i=>
    simp only;have d:i<l.length:=by
     unfold dQ at e;exact B6.1 (C3 e)
    have f:(l.map treeD).getD i default=treeD (l.getD i default):=by
     rw[A1,A1,E1,A0 d];rfl
    rw[mis_second a,f];rfl
   |none=>
    simp only;have o:∀i<l.length,q2 l i=false:=λi d=>by
     unfold dQ at e;rw[F6]at e;simpa using e i (B6.2 d)
    rw[firstN_congr λi d=>cyc_eq a g o d];unfold chkR3;cases dQ (q3 l) l.length<;>rfl
end
section
attribute[local simp] aR bJ bF aO aL aX aP
attribute[local simp] kH.cond Nd.d_eq nd_t nd_dr nd_td ndsD aQ bL bN us_t us_m us_d cY.r
def putAll(us:List cY):List bC:=us.foldl (λM u=>putS M u.name) []
theorem putS_len(l:List bC)(s:bC):(putS l s).length<=l.length+1:=by
 unfold putS;split
 .omega
 .rw[pM];exact A7 _
def usesRAt(l:List Df):Option Nat->List bC×Int
 |none=>([],6)
 |some i=>if(parseS (l.getD i default).text).2.2≠0 then([],(parseS (l.getD i default).text).2.2)else(putAll (bX (parseS (l.getD i default).text).1),0)
def usesR(l:List Df)(name:bC):List bC×Int:=usesRAt l (l.findIdx? λd=>decide (d.name=name))
end
section
attribute[local simp] aR bJ bF aO aL aX aP
attribute[local simp] kH.cond Nd.d_eq nd_t nd_dr nd_td ndsD aQ bL bN
def testsR(l:List Df):List bC:=if(chkR l).2≠0 then []else l.foldl (λM d=>if(parseS d.text).1.kind=6 then putS M d.name else M) []
def testsRt(l:List Df):List bC:=l.foldl (λM d=>if(parseS d.text).1.kind=6 then putS M d.name else M) []
theorem bfsF_len{l:List Df}{c:Bool}:∀(f n:Nat) (a:List bC×List bC),BfsJ (allU l) a->(bfsF l c f n a).length<=(allU l).length
 |0,_,a,h=>by have:=h.room;rw[bfsF];omega
 |f+1,n,a,h=>by
  rw[bfsF];cases q:a.2[n]? with
  |none=>have:=h.room;simp only;omega
  |some nm=>
   simp only;refine bfsF_len f (n+1) _ ?_;unfold bfsN;split
   .exact h
   .rename_i b;exact(bfs_fold (c:=c) (bX (tAt l nm)) a (uses_allU aE) h).2.2.2.2.2.1
theorem reachR_len(l:List Df)(a:bC)(c:Bool):(reachR l a c).length<=(allU l).length:=bfsF_len _ _ _ ⟨by simp[muS_nil],rfl⟩
def dAt(l:List Df)(nm:bC):Df:=l.getD (kG l nm).toNat default
def sliceR(l:List Df)(name:bC):List Df×Int:=
 if(chkR l).2≠0 then([],(chkR l).2)else if kG l name<0 then([],6)else((putS (reachR l name false) name).map (dAt l),0)
end
abbrev ltS(a b:bC):Bool:=Op.bytesLess a b
theorem putS_rising{out:List bC}{s:bC}(h:fK ltS out):fK ltS (putS out s):=by
 unfold putS;split
 .exact h
 .rename_i t;obtain⟨u,v⟩:=BR (p:=λy:bC=>Op.bytesLess s y) (out:=out) out.length (A7 _);have r:=Dk (p:=λy:bC=>Op.bytesLess s y) (out:=out) out.length;unfold iW;generalize mR (λy:bC=>Op.bytesLess s y) out out.length=k at*;have l:∀a∈out.take k,ltS a s=true:=λa j=>by
   obtain⟨i,m,rfl⟩:=B7 j;rw[List.getElem_take];rw[C7]at m;obtain⟨c,rfl⟩:∃c,k=c+1:=⟨k-1,aE⟩;have f:c<out.length:=aE;have o:=v c f rfl;have n:ltS out[c] s=true:=by
    cases q:ltS out[c] s with
    |true=>rfl
    |false=>exact absurd (bC.sto.total _ _ o q) (λe=>t (by rw[e];exact A9 f))
   by_cases e:i=c
   .subst e;exact n
   .exact bC.sto.trans _ _ _ (D0.1 h i c aE f aE) n
  have j:∀b∈out.drop k,ltS s b=true:=λb l=>by
   obtain⟨i,m,rfl⟩:=B7 l;rw[List.getElem_drop];rw[D5]at m;exact u (k+i) aE aE aE
  refine List.pairwise_append.2 ⟨h.sublist (H0 _ _),List.pairwise_cons.2 ⟨j,h.sublist (List.drop_sublist _ _)⟩,λa g b d=>?_⟩;rcases B4.1 d with rfl|d
  .exact l a g
  .exact bC.sto.trans _ _ _ (l a g) (j b d)
theorem ssort_rising{l:List bC}(h:l.Nodup):fK ltS (eE l):=by
 have c:(eE l).Perm l:=F2 l _;have d:(eE l).Nodup:=c.nodup_iff.2 h;have e:=dedup_nodup d;rw[<-e];exact pQ bC.sto ((pP l).imp λ{a b} h=>by
  rw[bytesLess_eq,decide_eq_false_iff_not,G4];exact h)
theorem mem_ssort{l:List bC}{s:bC}:s∈eE l↔s∈l:=(F2 l _).mem_iff
theorem putAll_spec(a:List cY):fK ltS (putAll a)/\∀s,s∈putAll a↔∃u∈a,u.name=s:=by
 have:∀(a:List cY) (M:List bC),fK ltS M->fK ltS (a.foldl (λM u=>putS M u.name) M)/\∀s,s∈a.foldl (λM u=>putS M u.name) M↔s∈M\/∃u∈a,u.name=s:=λa=>by
  induction a with
  |nil=>exact λM h=>⟨h,bB⟩
  |cons u r ih=>
   intro M h;obtain⟨b,c⟩:=ih (putS M u.name) (putS_rising h);rw[C6];refine⟨b,λs=>?_⟩;rw[c,mem_putS];simp only[B4,exists_eq_or_imp];constructor
   .rintro((e|h)|h)
    .exact .inr (.inl e.symm)
    .exact .inl h
    .exact .inr (.inr h)
   .rintro(h|(e|h))
    .exact .inl (.inr h)
    .exact .inl (.inl e.symm)
    .exact .inr h
 have h:=this a [] List.Pairwise.nil;exact⟨h.1,λs=>by simpa [putAll]using h.2 s⟩
theorem namesU_spec(c:List cY):(eW c).Nodup/\∀s,s∈eW c↔∃u∈c,u.name=s:=by
 have:∀(c:List cY) (M:List bC),M.Nodup->(c.foldl (λM u=>BW M u.name) M).Nodup/\∀s,s∈c.foldl (λM u=>BW M u.name) M↔s∈M\/∃u∈c,u.name=s:=λc=>by
  induction c with
  |nil=>exact λM h=>⟨h,bB⟩
  |cons u r ih=>
   intro M h;have d:(BW M u.name).Nodup/\∀s,s∈BW M u.name↔s∈M\/u.name=s:=by
    unfold BW;split
    .rename_i f;exact⟨h,λs=>⟨.inl,λq=>q.elim id λe=>e▸f⟩⟩
    .rename_i f;refine⟨E2.2 ⟨h,bB,λa d b g e=>?_⟩,λs=>by simp[eq_comm]⟩;simp at g;subst g;subst e;exact f d
   obtain⟨i,j⟩:=ih (BW M u.name) d.1;rw[C6];refine⟨i,λs=>?_⟩;rw[j,d.2];simp only[B4,exists_eq_or_imp];rw[or_assoc]
 have h:=this c [] H9;exact⟨h.1,λs=>by simpa [eW]using h.2 s⟩
theorem names_eq(a:List cY):eE (eW a)=putAll a:=by
 obtain⟨b,c⟩:=namesU_spec a;obtain⟨d,e⟩:=putAll_spec a;exact qB bC.sto (ssort_rising b) d λs=>by rw[mem_ssort,c,e]
theorem uses_eq(l:List Df)(a:bC):Hc l a=usesR l a:=by
 unfold Hc usesR;cases l.findIdx? (λd=>decide (d.name=a))with
 |none=>rfl
 |some i=>
  simp only[Fj,usesRAt];rw[names_eq]
theorem readP_trees{l:List Df}(h:(dS l).2.2=0):(dS l).1=l.map treeD:=by
 have b:=((rB l).2.2 h).1;have a:=readP_first (l:=l) b;cases q:dQ (q1 l) l.length with
 |some k=>rw[q]at a;exact absurd h a.2
 |none=>rw[q]at a;rw[a]
theorem names_at{l:List Df}(h:(l.map treeD).map Nd.text=l.map Df.name):∀d∈l,(treeD d).text=d.name:=by
 rw[H1]at h;exact List.map_inj_left.1 h
theorem testsT_map{l:List Df}(h:∀d∈l,(treeD d).text=d.name):gT (l.map treeD)=(l.filter λd=>decide ((treeD d).kind=6)).map Df.name:=by
 induction l with
 |nil=>rfl
 |cons d r b=>
  have b:=b λx e=>h x (B0 _ e);have c:=h d (B2 ..);unfold gT at*;rw[D7];by_cases a:(treeD d).kind=6
  .rw[E0 (by simpa using a),E0 (by simpa using a),D7,D7,b,c]
  .rw[D9 (by simpa using a),D9 (by simpa using a),b]
theorem testsRt_spec(l:List Df):fK ltS (testsRt l)/\∀s,s∈testsRt l↔∃d∈l,(treeD d).kind=6/\d.name=s:=by
 have:∀(l:List Df) (M:List bC),fK ltS M->fK ltS (l.foldl (λM d=>if(parseS d.text).1.kind=6 then putS M d.name else M) M)/\∀s,s∈l.foldl (λM d=>if(parseS d.text).1.kind=6 then putS M d.name else M) M↔s∈M\/∃d∈l,(treeD d).kind=6/\d.name=s:=λl=>by
  induction l with
  |nil=>exact λM h=>⟨h,bB⟩
  |cons d r ih=>
   intro M h;rw[C6];by_cases b:(parseS d.text).1.kind=6
   .rw[if_pos b];obtain⟨c,f⟩:=ih (putS M d.name) (putS_rising h);refine⟨c,λs=>?_⟩;rw[f,mem_putS];simp only[B4,exists_eq_or_imp];have a:(treeD d).kind=6:=b;constructor
    .rintro((e|h)|h)
     .exact .inr (.inl ⟨a,e.symm⟩)
     .exact .inl h
     .exact .inr (.inr h)
    .rintro(h|(⟨_,e⟩|h))
     .exact .inl (.inr h)
     .exact .inl (.inl e.symm)
     .exact .inr h
   .rw[if_neg b];obtain⟨c,f⟩:=ih M h;refine⟨c,λs=>?_⟩;rw[f];simp only[B4,exists_eq_or_imp];have a:¬(treeD d).kind=6:=b;constructor
    .rintro(h|h)
     .exact .inl h
     .exact .inr (.inr h)
    .rintro(h|(⟨e,_⟩|h))
     .exact .inl h
     .exact absurd e a
     .exact .inr h
 have h:=this l [] List.Pairwise.nil;exact⟨h.1,λs=>by simpa [testsRt]using h.2 s⟩
theorem tests_eq(l:List Df):Fg l=testsR l:=by
 unfold Fg testsR;have i:=chk_eq l;by_cases h:(mD l).2.2=0
 .have a:(chkR l).2=0:=by rw[<-i];exact h
  rw[if_neg (by simpa using h),if_neg (by simpa using a)];have g:=chkP_ok h;obtain⟨j,n⟩:=readP_names g;rw[Fh,readP_trees g];rw[readP_trees g]at j;rw[testsT_map (names_at j)];obtain⟨k,m⟩:=testsRt_spec l;have f:((l.filter λd=>decide ((treeD d).kind=6)).map Df.name).Nodup:=n.sublist (List.Sublist.map _ List.filter_sublist);refine qB bC.sto (ssort_rising f) k λs=>?_;rw[mem_ssort];refine Iff.trans ?_ (m s).symm;simp only[B8,D8,decide_eq_true_eq];constructor
  .rintro⟨d,⟨b,c⟩,e⟩;exact⟨d,b,c,e⟩
  .rintro⟨d,b,c,e⟩;exact⟨d,⟨b,c⟩,e⟩
 .have a:(chkR l).2≠0:=by rw[<-i];exact h
  rw[if_pos h,if_pos a]
theorem firstN_at{p:Nat->Bool}{n i:Nat}(h:dQ p n=some i):i<n/\p i=true:=by
 unfold dQ at h;exact⟨B6.1 (C3 h),F1 h⟩
theorem firstN_not{p:Nat->Bool}{n:Nat}(h:dQ p n=none):∀i<n,p i=false:=λi a=>by
 unfold dQ at h;rw[F6]at h;simpa using h i (B6.2 a)
theorem chkR_ok{l:List Df}(h:(chkR l).2=0):∀i<l.length,q2 l i=false:=by
 unfold chkR at h;split at h
 .cases h
 .unfold chkR1 at h;cases a:dQ (q1 l) l.length with
  |some i=>
   rw[a]at h;have:=(firstN_at a).2;unfold q1 at this;exact absurd h (of_decide_eq_true this)
  |none=>
   rw[a]at h;simp only at h;unfold chkR2 at h;cases b:dQ (q2 l) l.length with
   |some i=>
    rw[b]at h;have:=(firstN_at b).2;unfold q2 at this;exact absurd h (of_decide_eq_true this)
   |none=>exact firstN_not b
theorem bfsS_rising{c:Bool}{a:List bC×List bC}{u:cY}(h:fK ltS a.1):fK ltS (bfsS c a u).1:=by
 unfold bfsS;split
 .exact putS_rising h
 .exact h
theorem bfsF_rising{l:List Df}{c:Bool}:∀(f n:Nat) (a:List bC×List bC),fK ltS a.1->fK ltS (bfsF l c f n a)
 |0,_,_,h=>h
 |f+1,n,a,h=>by
  rw[bfsF];cases a.2[n]? with
  |none=>exact h
  |some nm=>
   refine bfsF_rising f (n+1) _ ?_;unfold bfsN;split
   .exact h
   .have:∀(b:List cY) (a:List bC×List bC),fK ltS a.1->fK ltS (b.foldl (bfsS c) a).1:=λb=>by
     induction b with
     |nil=>exact λa h=>h
     |cons u r ih=>exact λa h=>ih _ (bfsS_rising h)
    exact this _ a h
theorem sorted_rising{L:List bC}(h:L.Pairwise λa b=>a<=b)(c:L.Nodup):fK ltS L:=by
 rw[<-dedup_nodup c];exact pQ bC.sto (h.imp λ{a b} h=>by rw[bytesLess_eq,decide_eq_false_iff_not,G4];exact h)
theorem dAt_own{l:List Df}(h:(l.map treeD).map Nd.text=l.map Df.name)(b:(l.map Df.name).Nodup){i:Nat}(a:i<l.length):dAt l l[i].name=l[i]:=by
 unfold dAt;rw[idxN_at h,atN_own h b a];simp only[pU,E3];rw[A1,A0 a];rfl
theorem allB_eq(k:Int):cbR false k=allB k:=by simp[cbR,allB]
theorem slice_eq(l:List Df)(c:bC):sliceP l c=sliceR l c:=by
 unfold sliceP sliceR;have z:=chk_eq l;by_cases v:(mD l).2.2=0
 .have h:(chkR l).2=0:=by rw[<-z];exact v
  rw[if_neg (by simpa using v),if_neg (by simpa using h)];have B:=chkP_ok v;obtain⟨q,w⟩:=readP_names B;rw[Fh,readP_trees B];rw[readP_trees B]at q;have E:=chkR_ok h;rw[idxN_at q];cases D:pB (l.map treeD) c with
  |none=>simp[pU]
  |some i=>
   obtain⟨p,rfl⟩:=atN_name q D;rw[if_neg (show¬(pU (some i)<0)by show¬((i:Int)<0);omega)];have o:(l.map treeD).length=l.length:=bB;have C:=sliceAt_names (ts:=l.map treeD) (i:=i) w o (by rw[o];exact p);have A:=reachI_in (l.map treeD) allB i;have a:=nT (sliceAt l (l.map treeD) i);have x:fK ltS ((bV (sliceAt l (l.map treeD) i)).map Df.name):=by
    refine sorted_rising ?_ ((a.map Df.name).nodup_iff.2 C);rw[List.pairwise_map];exact pS _
   have y:fK ltS (putS (reachR l l[i].name false) l[i].name):=putS_rising (bfsF_rising _ _ _ List.Pairwise.nil);have j:∀d∈sliceAt l (l.map treeD) i,∃k,∃f:k<l.length,d=l[k]/\(k=i\/k∈jJ (l.map treeD) allB i):=λd b=>by
    rw[sliceAt_eq]at b;obtain⟨k,f,rfl⟩:=B8.1 b;rcases B4.1 f with rfl|f
    .exact⟨k,p,by rw[A1,A0 p];rfl,.inl rfl⟩
    .have r:=(D8.1 f).1;have t:k<l.length:=by have:=A.2 k r;rwa[o]at this
     exact⟨k,t,by rw[A1,A0 t];rfl,.inr r⟩
   have g:(bV (sliceAt l (l.map treeD) i)).map Df.name=putS (reachR l l[i].name false) l[i].name:=by
    refine qB bC.sto x y λs=>?_;rw[mem_putS,reachR_iff];constructor
    .intro u;obtain⟨d,b,rfl⟩:=B8.1 u;obtain⟨k,f,rfl,m⟩:=j d (a.mem_iff.1 b);rcases m with rfl|m
     .exact .inl rfl
     .obtain⟨_,n⟩:=reach_to q w allB_eq p ((reachI_iff _ _ _ _).1 m);exact .inr n
    .intro u;refine B8.2 ?_;rcases u with rfl|u
     .exact⟨l[i],a.mem_iff.2 (by rw[sliceAt_eq];exact B8.2 ⟨i,B2 ..,by rw[A1,A0 p];rfl⟩),rfl⟩
     .obtain⟨k,f,rfl,n⟩:=reach_from q w E allB_eq p u;refine⟨l[k],a.mem_iff.2 ?_,rfl⟩;rw[sliceAt_eq];refine B8.2 ⟨k,?_,by rw[A1,A0 f];rfl⟩;by_cases e:k=i
      .subst e;exact B2 ..
      .exact B0 _ (D8.2 ⟨(reachI_iff _ _ _ _).2 n,by simpa using e⟩)
   rw[<-g,H1];refine Prod.ext ?_ rfl;show bV (sliceAt l (l.map treeD) i)=_
   conv=>lhs;rw[<-List.map_id (bV (sliceAt l (l.map treeD) i))]
   refine G5 λd b=>?_;obtain⟨k,f,rfl,_⟩:=j d (a.mem_iff.1 b);exact(dAt_own q w f).symm
 .have h:(chkR l).2≠0:=by rw[<-z];exact v
  rw[if_pos v,if_pos h,<-z]
def StepD(l:List Df)(c:Bool)(a b:bC):Prop:=∃d∈l,d.name=a/\∃u∈bX (treeD d),cbR c u.bk=true/\u.name=b
def FineD(d:Df):Prop:=(parseS d.text).2.2=0/\(treeD d).text=d.name/\(cR (treeD d)).Nodup
def UseOk(l:List Df)(u:cY):Prop:=∃e∈l,e.name=u.name/\(treeD e).kind=u.kind/\(u.kind=1->u.field∈cR (treeD e))
structure Builds(l:List Df):Prop where
 len:l.length<=24
 names:(l.map Df.name).Nodup
 fine:∀d∈l,FineD d
 uses:∀d∈l,∀u∈bX (treeD d),UseOk l u
 calls:∀d∈l,¬RchG (StepD l true) d.name d.name
theorem firstN_nil{p:Nat->Bool}{n:Nat}:dQ p n=none↔∀i<n,p i=false:=by
 unfold dQ;rw[F6];constructor
 .intro h i a;simpa using h i (B6.2 a)
 .intro h i a;simpa using h i (B6.1 a)
theorem idxN_neg{l:List Df}{a:bC}:kG l a<0↔∀d∈l,d.name≠a:=by
 unfold kG;rw[mM];cases q:l.findIdx? (λd=>decide (d.name=a))with
 |none=>
  rw[B1]at q;exact⟨λ_ d c=>by simpa using q d c,λ_=>by simp[pU]⟩
 |some i=>
  obtain⟨e,b,_⟩:=A3.1 q;refine⟨λh=>?_,λh=>absurd (by simpa using b) (h l[i] (A9 e))⟩;simp[pU]at h;omega
theorem idxN_at2{l:List Df}{nm:bC}(h:0<=kG l nm):∃i,∃g:i<l.length,kG l nm=(i:Nat)/\l[i].name=nm/\tAt l nm=treeD l[i]/\∀j,∀m:j<l.length,j<i->l[j].name≠nm:=by
 obtain⟨i,d,e,a,o⟩:=idxN_lt h;obtain⟨g,a⟩:=C9.1 a;unfold kG at e;rw[mM]at e;cases q:l.findIdx? (λd=>decide (d.name=nm))with
 |none=>rw[q]at e;simp[pU]at e
 |some k=>
  obtain⟨n,c,f⟩:=A3.1 q;rw[q]at e;have e:k=i:=by simp[pU]at e;omega
  subst e;refine⟨k,n,?_,by simpa using c,by rw[o,<-a];rfl,λj m b=>by simpa using f j b⟩;unfold kG;rw[mM,q];rfl
theorem tAt_mem{l:List Df}(k:(l.map Df.name).Nodup){d:Df}(c:d∈l):0<=kG l d.name/\tAt l d.name=treeD d/\l.getD (kG l d.name).toNat default=d:=by
 have b:0<=kG l d.name:=by
  by_cases h:kG l d.name<0
  .exact absurd rfl (idxN_neg.1 h d c)
  .omega
 obtain⟨i,f,e,a,m,_⟩:=idxN_at2 b;obtain⟨j,g,rfl⟩:=B7 c;have:=name_inj k f g a;subst this;refine⟨b,m,?_⟩;rw[e,E3,A1,A0 f];rfl
theorem stepN_iff{l:List Df}(o:(l.map Df.name).Nodup){c:Bool}{a b:bC}:StepN l c a b↔StepD l c a b:=by
 constructor
 .rintro⟨f,u,k,g,e⟩;obtain⟨i,n,_,h,j,_⟩:=idxN_at2 f;exact⟨l[i],A9 n,h,u,by rw[<-j];exact k,g,e⟩
 .rintro⟨d,m,rfl,u,k,g,e⟩;obtain⟨f,j,_⟩:=tAt_mem o m;exact⟨f,u,by rw[j];exact k,g,e⟩
theorem RchG.mono{α:Type}{S T:α->α->Prop}(h:∀a b,S a b->T a b){i k:α}(r:RchG S i k):RchG T i k:=by
 induction r with
 |one h2=>exact .one (h _ _ h2)
 |more _ h2 ih=>exact .more ih (h _ _ h2)
theorem reachD_iff{l:List Df}(b:(l.map Df.name).Nodup){c:Bool}{a s:bC}:s∈reachR l a c↔RchG (StepD l c) a s:=by
 rw[reachR_iff];exact⟨RchG.mono λ_ _=>(stepN_iff b).1,RchG.mono λ_ _=>(stepN_iff b).2⟩
theorem getD_at{l:List Df}{i:Nat}(a:i<l.length):l.getD i default=l[i]:=by
 rw[A1,A0 a];rfl
theorem chk_zero{l:List Df}:(chkR l).2=0↔l.length<=24/\(∀i<l.length,q1 l i=false)/\(∀i<l.length,q2 l i=false)/\∀i<l.length,q3 l i=false:=by
 unfold chkR;by_cases d:24<l.length
 .rw[if_pos d];exact⟨λh=>by simp at h,λh=>aE⟩
 rw[if_neg d];unfold chkR1;cases q:dQ (q1 l) l.length with
 |some i=>
  simp only;have a:q1 l i=true/\i<l.length:=by
   unfold dQ at q;exact⟨by simpa using F1 q,B6.1 (C3 q)⟩
  refine⟨λh=>?_,λh=>?_⟩
  .have:=a.1;unfold q1 at this;exact absurd h (of_decide_eq_true this)
  .rw[h.2.1 i a.2]at a;simp at a
 |none=>
  simp only;have q:=firstN_nil.1 q;unfold chkR2;cases c:dQ (q2 l) l.length with
  |some i=>
   simp only;have a:q2 l i=true/\i<l.length:=by
    unfold dQ at c;exact⟨by simpa using F1 c,B6.1 (C3 c)⟩
   refine⟨λh=>?_,λh=>?_⟩
   .have:=a.1;unfold q2 at this;exact absurd h (of_decide_eq_true this)
   .rw[h.2.2.1 i a.2]at a;simp at a
  |none=>
   simp only;have c:=firstN_nil.1 c;unfold chkR3;cases b:dQ (q3 l) l.length with
   |some i=>
    simp only;have a:q3 l i=true/\i<l.length:=by
     unfold dQ at b;exact⟨by simpa using F1 b,B6.1 (C3 b)⟩
    refine⟨λh=>by simp at h,λh=>?_⟩;rw[h.2.2.2 i a.2]at a;simp at a
   |none=>
    have b:=firstN_nil.1 b;exact⟨λ_=>⟨aE,q,c,b⟩,λ_=>rfl⟩
theorem q1_iff{l:List Df}:(∀i<l.length,q1 l i=false)↔(l.map Df.name).Nodup/\∀d∈l,FineD d:=by
 constructor
 .intro h;have r:∀i,∀f:i<l.length,FineD l[i]/\¬kG l l[i].name<(i:Int):=λi f=>by
   have:=h i f;unfold q1 at this;rw[getD_at f,decide_eq_false_iff_not,ne_eq,Decidable.not_not]at this;unfold firstE at this;split at this
   .exact absurd this ‹_›
   .split at this
    .simp at this
    .split at this
     .simp at this
     .split at this
      .rename_i a b c d;exact⟨⟨Decidable.not_not.1 a,Decidable.not_not.1 b,d⟩,c⟩
      .simp at this
  refine⟨D0.2 λi j f o w=>?_,λd v=>?_⟩
  .simp only[B3]at f o;rw[C0,C0];intro e;have p:=(r j o).2;obtain⟨k,s,m,g,_,n⟩:=idxN_at2 (l:=l) (nm:=l[j].name) (by
    by_cases q:kG l l[j].name<0
    .exact absurd rfl (idxN_neg.1 q l[j] (A9 o))
    .omega)
   rw[m]at p;exact n i f aE e
  .obtain⟨i,f,rfl⟩:=B7 v;exact(r i f).1
 .rintro⟨t,n⟩ i f;obtain⟨a,b,d⟩:=n l[i] (A9 f);unfold q1;rw[getD_at f,decide_eq_false_iff_not,ne_eq,Decidable.not_not];unfold firstE;rw[if_neg (by simpa using a),if_neg (by simpa [treeD]using b),if_neg,if_pos (by simpa [treeD]using d)];obtain⟨u,_,_⟩:=tAt_mem t (A9 f);obtain⟨k,s,m,g,_,_⟩:=idxN_at2 u;rw[m,name_inj t s f g];omega
theorem useOk_iff{l:List Df}(o:(l.map Df.name).Nodup){u:cY}:UseOk l u↔p1 l u=false/\p2 l u=false/\p3 l u=false:=by
 unfold p1 p2 p3;simp only[decide_eq_false_iff_not];constructor
 .rintro⟨e,k,a,c,m⟩;obtain⟨g,b,_⟩:=tAt_mem o k;rw[a]at g b;refine⟨aE,by rw[b];simpa using c,?_⟩;rw[b];exact λh=>h.2 (m h.1)
 .rintro⟨p,d,f⟩;obtain⟨i,n,_,a,b,_⟩:=idxN_at2 (l:=l) (nm:=u.name) aE;rw[b]at d f;refine⟨l[i],A9 n,a,by simpa using d,λc=>?_⟩;exact A8 λj=>f ⟨c,j⟩
theorem second_zero{l:List Df}(e:(l.map Df.name).Nodup){f:List cY}:secondE l f=0↔∀u∈f,UseOk l u:=by
 unfold secondE;constructor
 .intro h u d;split at h
  .simp at h
  .split at h
   .simp at h
   .split at h
    .simp at h
    .rename_i a b c;simp only[E6,not_exists,not_and,H6]at a b c;exact(useOk_iff e).2 ⟨a u d,b u d,c u d⟩
 .intro h;rw[if_neg,if_neg,if_neg]<;>(simp only[E6,not_exists,not_and,H6];intro u d;have:=(useOk_iff e).1 (h u d);simp[this])
theorem builds_iff{l:List Df}:(chkR l).2=0↔Builds l:=by
 rw[chk_zero,q1_iff];constructor
 .rintro⟨c,⟨b,f⟩,g,h⟩;refine⟨c,b,f,λd e=>?_,λd e=>?_⟩
  .obtain⟨i,a,rfl⟩:=B7 e;have:=g i a;unfold q2 at this;rw[getD_at a,decide_eq_false_iff_not,ne_eq,Decidable.not_not]at this;exact(second_zero b).1 this
  .obtain⟨i,a,rfl⟩:=B7 e;have:=h i a;unfold q3 at this;rw[getD_at a,decide_eq_false_iff_not,reachD_iff b]at this;exact this
 .rintro⟨c,b,f,k,j⟩;refine⟨c,⟨b,f⟩,λi a=>?_,λi a=>?_⟩
  .unfold q2;rw[getD_at a,decide_eq_false_iff_not,ne_eq,Decidable.not_not];exact(second_zero b).2 (k _ (A9 a))
  .unfold q3;rw[getD_at a,decide_eq_false_iff_not,reachD_iff b];exact j _ (A9 a)
theorem Builds.perm{a b:List Df}(h:Builds a)(p:a.Perm b):Builds b:=by
 have f:∀d,d∈b↔d∈a:=λd=>p.symm.mem_iff;refine⟨by rw[<-p.length_eq];exact h.len,(p.map _).nodup_iff.1 h.names,λd c=>h.fine d ((f d).1 c),λd c u j=>?_,λd c i=>?_⟩
 .obtain⟨e,g,r⟩:=h.uses d ((f d).1 c) u j;exact⟨e,(f e).2 g,r⟩
 .refine h.calls d ((f d).1 c) (i.mono ?_);rintro x y ⟨e,g,r⟩;exact⟨e,(f e).1 g,r⟩
theorem reachR_rising(l:List Df)(a:bC)(c:Bool):fK ltS (reachR l a c):=bfsF_rising _ _ _ List.Pairwise.nil
def sliceN(l:List Df)(nm:bC):List bC:=putS (reachR l nm false) nm
theorem sliceN_rising(l:List Df)(a:bC):fK ltS (sliceN l a):=putS_rising (reachR_rising l a false)
def Rests(l:List Df)(nm s:bC):Prop:=s=nm\/RchG (StepD l false) nm s
theorem mem_sliceN{l:List Df}(b:(l.map Df.name).Nodup){a s:bC}:s∈sliceN l a↔Rests l a s:=by
 unfold sliceN Rests;rw[mem_putS,reachD_iff b]
theorem dAt_mem{l:List Df}(b:(l.map Df.name).Nodup){d:Df}(a:d∈l):dAt l d.name=d:=(tAt_mem b a).2.2
theorem rests_in{l:List Df}(h:Builds l){d:Df}(g:d∈l){s:bC}(c:Rests l d.name s):∃e∈l,e.name=s:=by
 rcases c with rfl|c
 .exact⟨d,g,rfl⟩
 .have:∃a,StepD l false a s:=by cases c with|one h2=>exact⟨_,h2⟩|more _ h2=>exact⟨_,h2⟩
  obtain⟨_,f,b,_,u,j,_,e⟩:=this;obtain⟨x,k,i,_⟩:=h.uses f b u j;exact⟨x,k,by rw[i,e]⟩
def sliceL(l:List Df)(nm:bC):List Df:=(sliceN l nm).map (dAt l)
theorem slice_b{l:List Df}(h:Builds l){d:Df}(a:d∈l):sliceR l d.name=(sliceL l d.name,0):=by
 unfold sliceR;rw[if_neg (by simpa using builds_iff.2 h),if_neg (by have:=(tAt_mem h.names a).1;omega)];rfl
theorem rests_same{l m:List Df}{f:bC}(i:∀e,Rests l f e.name->(e∈l↔e∈m))(s:bC):Rests l f s↔Rests m f s:=by
 constructor
 .rintro(rfl|hr)
  .exact .inl rfl
  .right;have g:∀a b,RchG (StepD l false) a b->a=f->RchG (StepD m false) f b/\RchG (StepD l false) f b:=by
    intro a b r;induction r with
    |one h2=>
     rintro rfl;obtain⟨e,d,c,r⟩:=h2;exact⟨.one ⟨e,(i e (.inl c)).1 d,c,r⟩,.one ⟨e,d,c,r⟩⟩
    |more _ h2 ih=>
     intro j;obtain⟨k,h⟩:=ih j;obtain⟨e,d,c,r⟩:=h2;exact⟨.more k ⟨e,(i e (by rw[c];exact .inr h)).1 d,c,r⟩,.more h ⟨e,d,c,r⟩⟩
   exact(g _ _ hr rfl).1
 .rintro(rfl|hr)
  .exact .inl rfl
  .right;have g:∀a b,RchG (StepD m false) a b->a=f->RchG (StepD l false) f b:=by
    intro a b r;induction r with
    |one h2=>
     rintro rfl;obtain⟨e,d,c,r⟩:=h2;exact .one ⟨e,(i e (.inl c)).2 d,c,r⟩
    |more _ h2 ih=>
     intro j;have h:=ih j;obtain⟨e,d,c,r⟩:=h2;exact .more h ⟨e,(i e (by rw[c];exact .inr h)).2 d,c,r⟩
   exact g _ _ hr rfl
theorem slice_same{l m:List Df}(a:Builds l)(f:Builds m){d:Df}(i:d∈l)(b:∀e,Rests l d.name e.name->(e∈l↔e∈m)):sliceL m d.name=sliceL l d.name:=by
 have h:sliceN m d.name=sliceN l d.name:=qB bC.sto (sliceN_rising _ _) (sliceN_rising _ _) λs=>by rw[mem_sliceN f.names,mem_sliceN a.names];exact(rests_same b s).symm
 unfold sliceL;rw[h];refine G5 λs g=>?_;obtain⟨e,c,rfl⟩:=rests_in a i ((mem_sliceN a.names).1 g);rw[dAt_mem a.names c,dAt_mem f.names ((b e ((mem_sliceN a.names).1 g)).1 c)]
def w32(x:BitVec 32):DV:=.int .u32 (x.toNat:Int)
theorem wrap32(n:Int):IntKind.u32.wrap n=n%4294967296:=by
 unfold IntKind.wrap;simp[IntKind.bits,IntKind.signed]
theorem wrap32_nat(n:Nat):IntKind.u32.wrap (n:Int)=((n%4294967296:Nat):Int):=by rw[wrap32];omega
theorem wrap32_id(x:BitVec 32):IntKind.u32.wrap (x.toNat:Int)=(x.toNat:Int):=by
 rw[wrap32_nat];have:=x.isLt;omega
theorem add32(x y:BitVec 32):IntKind.u32.wrap ((x.toNat:Int)+(y.toNat:Int))=((x+y).toNat:Int):=by
 rw[BitVec.toNat_add,show(x.toNat:Int)+(y.toNat:Int)=((x.toNat+y.toNat:Nat):Int)by omega,wrap32_nat]
theorem of32(x:BitVec 32):B9 32 (x.toNat:Int)=x:=by
 apply BitVec.eq_of_toNat_eq;rw[BitVec.toNat_ofInt];have:=x.isLt;omega
theorem and32(x y:BitVec 32):IntKind.u32.wrap ((B9 32 (x.toNat:Int)&&&B9 32 (y.toNat:Int)).toNat:Int)=((x&&&y).toNat:Int):=by rw[of32,of32,wrap32_id]
theorem or32(x y:BitVec 32):IntKind.u32.wrap ((B9 32 (x.toNat:Int)|||B9 32 (y.toNat:Int)).toNat:Int)=((x|||y).toNat:Int):=by rw[of32,of32,wrap32_id]
theorem xor32(x y:BitVec 32):IntKind.u32.wrap ((B9 32 (x.toNat:Int)^^^B9 32 (y.toNat:Int)).toNat:Int)=((x^^^y).toNat:Int):=by rw[of32,of32,wrap32_id]
theorem not32(x:BitVec 32):IntKind.u32.wrap ((B9 32 IntKind.u32.max^^^B9 32 (x.toNat:Int)).toNat:Int)=((~~~x).toNat:Int):=by
 have e:B9 32 IntKind.u32.max=I0 32:=bK;rw[e,of32,BitVec.allOnes_xor,wrap32_id]
theorem ones32(x:BitVec 32):IntKind.u32.wrap ((B9 32 (x.toNat:Int)^^^B9 32 4294967295).toNat:Int)=((~~~x).toNat:Int):=by
 have e:B9 32 4294967295=I0 32:=bK;rw[e,of32,BitVec.xor_allOnes,wrap32_id]
theorem shl32(x:BitVec 32)(k:Nat)(a:k<=32):IntKind.u32.wrap ((x.toNat:Int)*2^k)=((x<<<k).toNat:Int):=by
 rw[BitVec.toNat_shiftLeft,Nat.shiftLeft_eq,show(x.toNat:Int)*2^k=((x.toNat*2^k:Nat):Int)by simp,wrap32_nat]
theorem shr32(x:BitVec 32)(k:Nat):(x.toNat:Int).fdiv (2^k)=((x>>>k).toNat:Int):=by
 rw[BitVec.toNat_ushiftRight,Nat.shiftRight_eq_div_pow,show(2:Int)^k=((2^k:Nat):Int)by simp,F4 _ (Int.natCast_nonneg _),Int.natCast_ediv]
def b32(b:UInt8):BitVec 32:=BitVec.ofNat 32 b.toNat
theorem conv32(b:UInt8):IntKind.u32.wrap (b.toNat:Int)=((b32 b).toNat:Int):=by
 rw[wrap32_nat];unfold b32;rw[BitVec.toNat_ofNat]
theorem conv8(x:BitVec 32):IntKind.u8.wrap (x.toNat:Int)=((E8 x.toNat).toNat:Int):=by
 unfold IntKind.wrap;simp[IntKind.bits,IntKind.signed,UInt8.toNat_ofNat]
def ror(x:BitVec 32)(k:Nat):BitVec 32:=x>>>k|||x<<<(32-k)
theorem ror_comm(x:BitVec 32)(k:Nat):x<<<(32-k)|||x>>>k=ror x k:=BitVec.or_comm _ _
structure H8 where
 (a b c d e f g h:BitVec 32)
def KS:List (BitVec 32):=[
 0x428a2f98,0x71374491,0xb5c0fbcf,0xe9b5dba5,0x3956c25b,0x59f111f1,0x923f82a4,0xab1c5ed5,
 0xd807aa98,0x12835b01,0x243185be,0x550c7dc3,0x72be5d74,0x80deb1fe,0x9bdc06a7,0xc19bf174,
 0xe49b69c1,0xefbe4786,0x0fc19dc6,0x240ca1cc,0x2de92c6f,0x4a7484aa,0x5cb0a9dc,0x76f988da,
 0x983e5152,0xa831c66d,0xb00327c8,0xbf597fc7,0xc6e00bf3,0xd5a79147,0x06ca6351,0x14292967,
 0x27b70a85,0x2e1b2138,0x4d2c6dfc,0x53380d13,0x650a7354,0x766a0abb,0x81c2c92e,0x92722c85,
 0xa2bfe8a1,0xa81a664b,0xc24b8b70,0xc76c51a3,0xd192e819,0xd6990624,0xf40e3585,0x106aa070,
 0x19a4c116,0x1e376c08,0x2748774c,0x34b0bcb5,0x391c0cb3,0x4ed8aa4a,0x5b9cca4f,0x682e6ff3,
 0x748f82ee,0x78a5636f,0x84c87814,0x8cc70208,0x90befffa,0xa4506ceb,0xbef9a3f7,0xc67178f2]
def sig0(x:BitVec 32):BitVec 32:=ror x 7^^^ror x 18^^^x>>>3
def sig1(x:BitVec 32):BitVec 32:=ror x 17^^^ror x 19^^^x>>>10
def mix3(x:BitVec 32)(i j k:Nat):BitVec 32:=ror x i^^^ror x j^^^ror x k
def rndO(s:H8)(k w:BitVec 32):H8:=
 ⟨s.h+mix3 s.e 6 11 25+((s.e&&&s.f)^^^(~~~s.e&&&s.g))+k+w+(mix3 s.a 2 13 22+((s.a&&&s.b)^^^(s.a&&&s.c)^^^(s.b&&&s.c))),s.a,s.b,s.c,
  s.d+(s.h+mix3 s.e 6 11 25+((s.e&&&s.f)^^^(~~~s.e&&&s.g))+k+w),s.e,s.f,s.g⟩
def wd(ws:List (BitVec 32))(t:Nat):BitVec 32:=ws.getD t 0
def firstW(b:List UInt8)(t:Nat):BitVec 32:=b32 (b.getD (4*t) 0)<<<24|||b32 (b.getD (4*t+1) 0)<<<16|||b32 (b.getD (4*t+2) 0)<<<8|||b32 (b.getD (4*t+3) 0)
def sched(b:List UInt8):Nat->List (BitVec 32)
 |0=>[]
 |t+1=>sched b t++[if t<16 then firstW b t else wd (sched b t) (t-16)+sig0 (wd (sched b t) (t-15))+wd (sched b t) (t-7)+sig1 (wd (sched b t) (t-2))]
theorem sched_len(b:List UInt8):∀t,(sched b t).length=t
 |0=>rfl
 |t+1=>by simp[sched,sched_len b t]
theorem firstW_eq(p q r s:UInt8):(((0<<<8|||b32 p)<<<8|||b32 q)<<<8|||b32 r)<<<8|||b32 s=b32 p<<<24|||b32 q<<<16|||b32 r<<<8|||b32 s:=by
 simp[BitVec.shiftLeft_or_distrib,<-BitVec.shiftLeft_add]
def rndS(s:H8)(ks ws:List (BitVec 32)):Nat->H8
 |0=>s
 |t+1=>rndO (rndS s ks ws t) (ks.getD t 0) (wd ws t)
def H8.add(s r:H8):H8:=⟨s.a+r.a,s.b+r.b,s.c+r.c,s.d+r.d,s.e+r.e,s.f+r.f,s.g+r.g,s.h+r.h⟩
def comp(s:H8)(b:List UInt8):H8:=s.add (rndS s KS (sched b 64) 64)
def blkS(s:H8)(m:List UInt8):Nat->H8
 |0=>s
 |n+1=>comp (blkS s m n) ((m.drop (64*n)).take 64)
theorem blk_app(s:H8)(m x:List UInt8):∀n,64*n<=m.length->blkS s (m++x) n=blkS s m n
 |0,_=>rfl
 |n+1,h=>by
  rw[blkS,blkS,blk_app s m x n aE,E9 aE,F0 (by rw[D5];omega)]
structure Strm where
 (s:H8)(B:List UInt8)(n:Nat)
def roomS(st:Strm)(x:List UInt8):Nat:=min x.length (64-st.n%64)
def stepS(st:Strm)(x:List UInt8):Strm:=
 ⟨if st.n%64+roomS st x=64 then comp st.s (bF (st.n%64) st.B (x.take (64-st.n%64)))else st.s,bF (st.n%64) st.B (x.take (64-st.n%64)),st.n+roomS st x⟩
def addP:Nat->Strm->List UInt8->Strm
 |0,st,_=>st
 |f+1,st,x=>if x=[]then st else addP f (stepS st x) (x.drop (roomS st x))
def iv:H8:=⟨0x6a09e667,0xbb67ae85,0x3c6ef372,0xa54ff53a,0x510e527f,0x9b05688c,0x1f83d9ab,0x5be0cd19⟩
def HoldS(m:List UInt8)(st:Strm):Prop:=st.B.length=64/\st.n=m.length/\st.s=blkS iv m (m.length / 64)/\st.B.take (m.length%64)=m.drop (64*(m.length / 64))
def emptyS:Strm:=⟨iv,I1 64 0,0⟩
theorem holds_empty:HoldS [] emptyS:=⟨rfl,rfl,rfl,rfl⟩
theorem HoldS.step{m:List UInt8}{st:Strm}(h:HoldS m st)(x:List UInt8):HoldS (m++x.take (roomS st x)) (stepS st x):=by
 obtain⟨v,g,i,k⟩:=h;obtain⟨r,e⟩:∃r,r=m.length%64:=⟨_,rfl⟩;obtain⟨q,n⟩:∃q,q=m.length / 64:=⟨_,rfl⟩;have t:m.length=64*q+r:=aE;have o:r<64:=aE;rw[<-e,<-n]at k;rw[<-n]at i;have p:x.take (64-r)=x.take (roomS st x):=by
  unfold roomS;rw[g,<-e,List.take_eq_take_iff];omega
 have l:roomS st x=(x.take (roomS st x)).length:=by rw[C7];unfold roomS;omega
 have j:r+roomS st x<=64:=by unfold roomS;rw[g,<-e];omega
 unfold stepS;rw[g,<-e,p];obtain⟨y,u⟩:∃y,y=x.take (roomS st x):=⟨_,rfl⟩;rw[<-u]at l|-;rw[l]at j|-;have s:(bF r st.B y).length=64:=by unfold bF;simp;omega
 have a:(bF r st.B y).take 64=bF r st.B y:=A4 aE;have c:(bF r st.B y).take (r+y.length)=(m++y).drop (64*q):=by
  unfold bF;rw[E9 aE,<-k,F0 kD,A4 kD]
 refine⟨s,bB,?_,?_⟩
 .simp only[A6];by_cases d:r+y.length=64
  .have b:(m.length+y.length) / 64=q+1:=aE;rw[if_pos d,b,blkS,blk_app _ _ _ _ aE,i,<-c,d,a,a]
  .have b:(m.length+y.length) / 64=q:=aE;rw[if_neg d,b,blk_app _ _ _ _ aE,i]
 .simp only[A6];by_cases d:r+y.length=64
  .have b:(m.length+y.length) / 64=q+1:=aE;have f:(m.length+y.length)%64=0:=aE;rw[b,f,List.take_zero,List.drop_eq_nil_of_le (by rw[A6];omega)]
  .have b:(m.length+y.length) / 64=q:=aE;have f:(m.length+y.length)%64=r+y.length:=aE;rw[b,f,c]
theorem room_pos{st:Strm}{x:List UInt8}(h:x≠[]):0<roomS st x:=by
 unfold roomS;have:=List.length_pos_iff.2 h;omega
theorem HoldS.adds:∀(f:Nat) {m:List UInt8} {st:Strm} (_:HoldS m st) (x:List UInt8),x.length<=f->HoldS (m++x) (addP f st x)
 |0,m,st,h,x,hx=>by
  have:x=[]:=A5 aE;subst this;simpa [addP]using h
 |f+1,m,st,h,x,hx=>by
  unfold addP;split
  .rename_i e;subst e;simpa using h
  .rename_i e;have a:=HoldS.adds f (h.step x) (x.drop (roomS st x)) (by rw[D5];have:=room_pos (st:=st) e;omega)
   rwa[G8,C8]at a
def len8(n:Nat):List UInt8:=(I6 8).map λi=>E8 (n / 256^(7-i))
def padS(n:Nat):List UInt8:=128::I1 ((119-n%64)%64) 0++len8 (8*n)
def out32(s:H8):List UInt8:=[s.a,s.b,s.c,s.d,s.e,s.f,s.g,s.h].flatMap λ(x:BitVec 32)=>[E8 (x>>>24).toNat,E8 (x>>>16).toNat,E8 (x>>>8).toNat,E8 x.toNat]
def sha(m:List UInt8):List UInt8:=out32 (blkS iv (m++padS m.length) ((m++padS m.length).length / 64))
theorem HoldS.sum{m:List UInt8}{a:Strm}(h:HoldS m a)(f:Nat)(c:(padS m.length).length<=f):out32 (addP f a (padS a.n)).s=sha m:=by
 obtain⟨_,b,_,_⟩:=id h;have:=(h.adds f (padS m.length) c).2.2.1;rw[b,this,sha]
def digF:Nat->Nat->List Nat
 |0,_=>[]
 |f+1,m=>if m=0 then []else m%256::digF f (m / 256)
theorem digF_len:∀(f m:Nat),(digF f m).length<=f
 |0,_=>A7 _
 |f+1,m=>by
  unfold digF;split
  .simp
  .have:=digF_len f (m / 256);simp only[E5];omega
theorem digF_lt:∀(f m:Nat),∀d∈digF f m,d<256
 |0,_,d,h=>by cases h
 |f+1,m,d,h=>by
  unfold digF at h;split at h
  .cases h
  .rcases B4.1 h with rfl|h
   .omega
   .exact digF_lt f _ d h
def absE(n:Int):Nat:=(if n<0 then -1-n else n).toNat
def intE(n:Int):List Nat:=(if n<0 then 127-(digF 8 (absE n)).length else 128+(digF 8 (absE n)).length)::(digF 8 (absE n)).reverse.map λd=>if n<0 then 255-d else d
def I64R(n:Int):Prop:= -9223372036854775808<=n/\n<=9223372036854775807
theorem absE_lt{n:Int}(h:I64R n):absE n<256^8:=by
 obtain⟨a,b⟩:=h;unfold absE;split<;>omega
theorem len_R{n:Nat}(h:n<=9223372036854775807):I64R (n:Int):=⟨aE,aE⟩
def strE(s:List UInt8):List Nat:=intE s.length++s.map UInt8.toNat
end Go.Eng
