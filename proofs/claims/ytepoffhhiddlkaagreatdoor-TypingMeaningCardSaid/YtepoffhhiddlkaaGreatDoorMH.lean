/- Part 8 of the proof. No condition. -/
import Derived.Test.YtepoffhhiddlkaaGreatDoorMG
open Go.Proofs
open Go.Proofs.Tryz
set_option linter.unusedVariables false
set_option linter.unusedSimpArgs false
set_option maxRecDepth 20000
set_option maxHeartbeats 4000000
open List renaming take_of_length_le→A1,replicate→A2,getElem?_eq_getElem→A3,take_succ_eq_append_getElem→A4,getD_eq_getElem?_getD→A5,length_map→A6,findIdx?_eq_some_iff_getElem→A9,mem_cons→B0,take→B1,filter_cons_of_pos→B2,filter_cons_of_neg→B3,pairwise_cons→B4,length_filter_le→B5,length_take→B7,getElem_mem→B8,getElem?_eq_some_iff→B9,length_reverse→C1,length_drop→C4,take_length→C5,mem_map→C8,findIdx?_cons→D0,drop_drop→D2,findIdx?_eq_none_iff→D4,length_cons→D6,cons_append→D7,take_append_drop→E1,getElem_reverse→E2,mem_append_left→E3,map_cons→E4,length_append→E6,range→E7,filter_filter→E8,foldl_append→F1,append_nil→F2,length_nil→F4,mem_append→F5,drop→F6
open Nat renaming le_refl→A0,zero_le→A7,add_assoc→C2,not_lt_zero→C6,pow_succ→C7,add_sub_cancel→C9,one_le_two_pow→D3,pow_pos→D5,lt_succ_self→D8,le_div_iff_mul_le→D9,div_lt_iff_lt_mul→E0,lt_of_lt_of_le→E5,mul_comm→E9,le_trans→F0,add_comm→F7,zero_add→F8,mod_lt→F9
open Int renaming tmod_eq_emod_of_nonneg→A8
open Array renaming replicate→F3
open Bool renaming false_eq_true→D1
open Classical renaming byContradiction→C0
open BitVec renaming ofInt→B6
open UInt8 renaming ofNat→C3
namespace Go.Eng
section
attribute[local simp] lX lY oG lZ jR oH mC mD rD oI oJ oK oL oM
attribute[local simp] rE pK oN wM oO oP iA kJ.cond aU bO rF rG mE wO wP wN mF mN rV oQ oS wR wS rH oT oU Aa Ab tW wQ nN
theorem VO:SO=wD KS:=by rfl
theorem ZV:KS.length=64:=by rfl
set_option maxRecDepth 100000
theorem Kz(st:gV)(s:H8)(H:st.B.length=64):mH prog 132 [.d (.agg (HY s)),.sb 0 8 64 64] [(0,.box false (dJ st))] [(0,.box false (dJ st))] (.d (.agg (HY (comp s st.B)))):=by
 refine lE func132 rfl ntmps132 results132 λY X q=>?_;have J:=gE H;have n:=gU st.B 64;have p:comp s st.B=s.add (HU s KS (eX st.B 64) 64):=rfl;obtain⟨V,L⟩:∃V,V=eX st.B 64:=⟨_,rfl⟩;have k:=Ky st H;rw[<-L]at n p k;have F:∀a b c d:LV,bE 0 [a,b,c,d] (vL s)=vL s:=λ_ _ _ _=>eO (A0 4);have B:∀a b c d:LV,bE 0 [a,b,c,d] (eL s)=eL s:=λ_ _ _ _=>eO (A0 4);have o:(wD KS).length=64:=rfl;have y:B1 64 (wD KS)=wD KS:=rfl;have l:(wL V).length=64:=by rw[wH,n]
 have z:(wD V).length=64:=by rw[ZO,n]
 apply aE;simp;refine dF (oh 14 [(0,.box false (dJ st))] (.d (.agg (wD V)))) ?_;simp[l,z];refine⟨k,?_⟩;apply aF;refine fF.rd [[6,7],[6,7],[6,7],[6,7],[6,7],[6,7],[7],[6]] [[],[],[],[],[],[],[6],[7],[6],[7]] (λ_=>none) ?_;simp[aBo,aBp,VB,VC,Dd];apply eT;simp[VO,o,y];apply aY;refine bC (ι:=Nat) (λt=>bB [(2,.bx 2 0),(4,.bx 4 0),(5,.bx 5 0),(6,.bx 6 0),(7,.bx 7 0),(21,.d (.agg (wD KS))),(22,.d (aI t))]) (λt=>aK [(0,.box false (dJ st)),(2,.box false (Fn s)),(4,.box false (A2 8 (.d (.int .u32 0)))),(5,.box false (wL V)),(6,.box false (vL (HU s KS V t))),(7,.box false (eL (HU s KS V t)))]) (λt=>t<=64) (λt=>64-t) 0 (aA q [2,4,5,6,7,21,22] [(0,0),(2,2),(4,4),(5,5),(6,6),(7,7)] (hH:=by simp[HU,A2,eO,l,F,B])) (A7 _) λt O=>?_;apply aE;simp;apply aF;apply aM;simp;refine⟨λK=>?_,λK=>?_⟩
 .apply aG;simp;apply eE;apply aF;have Q:=ZP KS (i:=t) (by rw[ZV];omega);apply aJ;simp[Q,o];refine⟨aD,?_⟩;apply aF;have W:=Nf V (i:=t) aD;obtain⟨r,v⟩:∃r,r=HU s KS V t:=⟨_,rfl⟩;have E:HU s KS V (t+1)=ZL r (KS.getD t 0) (V.getD t 0):=by rw[v];rfl
  rw[<-v];refine fF.rd [[30],[30],[],[],[],[],[30],[30],[30],[30],[30],[30],[30],[30],[30],[30],[30],[30],[],[30],[],[30],[30],[30]] [[],[],[],[],[30]] (og 30 (.plain ⟨.d (fR (MY r.e 6 11 25)),true⟩)) ?_;simp[W,eL,l];refine⟨⟨⟨VN r.e 6 11 25 bG bG bG,aD⟩,aD⟩,?_⟩;apply aF;refine fF.rd [[],[],[],[53],[53],[53],[53],[53],[53],[53],[53],[53],[53],[53],[53],[53],[53],[53],[53],[53]] [[],[],[53]] (og 53 (.plain ⟨.d (fR (MY r.a 2 13 22)),true⟩)) ?_;simp[vL];refine⟨VN r.a 2 13 22 bG bG bG,?_⟩;apply aE;simp[vL,eL,bE];apply aJ;simp[vL,eL,bE];apply aJ;simp;refine⟨aD,?_⟩;refine Oe.mk (t+1) (aA q [2,4,5,6,7,21,22] [(0,0),(2,2),(4,4),(5,5),(6,6),(7,7)] (hH:=by simp[E,ZL,vL,eL,bE])) ?_ ?_
  .omega
  .omega
 .apply bQ;simp;apply fL;obtain⟨r,v⟩:∃r,r=HU s KS V t:=⟨_,rfl⟩;apply aJ;simp;apply aY;refine bC (ι:=Nat) (λj=>bB [(2,.bx 2 0),(4,.bx 4 0),(6,.bx 6 0),(7,.bx 7 0),(94,.d (aI j))]) (λj=>aK [(0,.box false (dJ st)),(2,.box false (uP s r j)),(4,.box false (A2 8 (.d (.int .u32 0)))),(6,.box false (vL r)),(7,.box false (eL r))]) (λj=>j<=4) (λj=>4-j) 0 (aA q [2,4,6,7,94] [(0,0),(2,2),(4,4),(6,6),(7,7)] (hH:=by simp[RX,v])) (A7 _) λj I=>?_;apply aE;simp;apply aF;apply aM;simp;refine⟨λw=>?_,λw=>?_⟩
  .apply aG;simp;apply eE;apply aE;simp;apply aF;have M:=VF s r (show j<4 by omega);have U:=ZR r (show j<4 by omega);have N:=ZS r (show j<4 by omega);have m:=VE s r j;have A:=RZ s r (show j<4 by omega);have u:=VG s r (show j<4 by omega);refine fF.rd [] [[],[],[],[],[],[],[],[],[2]] (λ_=>none) ?_;simp[M,U,m,VB];refine⟨aD,?_⟩;have D:∀x:LV,(bE j (uP s r j) [x]).length=8:=λx=>by rw[BM (by rw[m];simp;omega),m]
   have C:((j:Int)+4).toNat=j+4:=aD;refine fF.rd [] [[],[],[],[],[],[],[],[],[],[2]] (λ_=>none) ?_;simp[C,A,N,D,VC];refine⟨aD,?_⟩;apply aJ;simp;refine⟨aD,?_⟩;refine Oe.mk (j+1) (aA q [2,4,6,7,94] [(0,0),(2,2),(4,4),(6,6),(7,7)] (hH:=by simp[u])) ?_ ?_
   .omega
   .omega
  .apply bQ;simp;apply aF;have P:j=4:=aD;subst P;have S:t=64:=aD;subst S;have G:∀a b c d e f g h:LV,bE 0 [a,b,c,d,e,f,g,h] (Fn (s.add r))=Fn (s.add r):=λ_ _ _ _ _ _ _ _=>eO (A0 8);apply aJ;simp[G,VD,Dd,VA,eO];apply aH;rw[p,<-v];simp[Dd,VA];exact aA q [0] [(0,0)]
end
section
attribute[local simp] aR bK bE aO
attribute[local simp] kJ.cond
end
theorem sX:∀(f m k:Nat),m<256^k->(k=0\/256^(k-1)<=m)->k<=f->(gW f m).length=k
 |0,m,k,_,_,hk=>by have:k=0:=aD
                   subst this;rfl
 |f+1,m,0,h,_,_=>by simp at h;subst h;simp[gW]
 |f+1,m,k+1,h,a,hk=>by
  have c:0<256^k:=D5 bG;have b:256^k<=m:=by rcases a with a|a;omega;simpa using a
  unfold gW;rw[if_neg aD,D6,sX f (m / 256) k ?_ ?_ aD]
  .rw[C7]at h;omega
  .cases k with
   |zero=>exact .inl rfl
   |succ k=>right;simp only[C9];rw[C7]at b;omega
theorem EH:∀(f m i:Nat),i<(gW f m).length->(gW f m)[i]? =some (m / 256^i%256)
 |0,_,_,h=>by simp[gW]at h
 |f+1,m,i,h=>by
  unfold gW at h|-;split
  .rename_i a;rw[if_pos a]at h;simp at h
  .rename_i a;rw[if_neg a]at h;cases i with
   |zero=>simp
   |succ i=>
    rw[List.getElem?_cons_succ,EH f (m / 256) i (by simpa using h),Nat.div_div_eq_div_mul,C7,E9]
theorem Yb{n:Int}(c: -9223372036854775808<=n)(d:n<0):IntKind.u64.wrap (B6 64 IntKind.u64.max^^^B6 64 (IntKind.u64.wrap n)).toNat= -1-n:=by
 have a:B6 64 IntKind.u64.max=BitVec.allOnes 64:=bG;have b:IntKind.u64.wrap n=n+18446744073709551616:=by
  unfold IntKind.wrap;simp[IntKind.bits,IntKind.signed];omega
 rw[a,BitVec.allOnes_xor,BitVec.toNat_not,b,BitVec.toNat_ofInt];unfold IntKind.wrap;simp[IntKind.bits,IntKind.signed];omega
theorem ZW{n:Int}(a:0<=n)(b:n<=9223372036854775807):IntKind.u64.wrap n=n:=by
 unfold IntKind.wrap;simp[IntKind.bits,IntKind.signed];omega
set_option maxRecDepth 100000 in
theorem KA:∀x:Nat,x<256->IntKind.u8.wrap (B6 IntKind.u8.bits (x:Int)^^^B6 IntKind.u8.bits 0).toNat=(x:Int):=bG
set_option maxRecDepth 100000 in
theorem PR:∀x:Nat,x<256->IntKind.u8.wrap (B6 IntKind.u8.bits (x:Int)^^^B6 IntKind.u8.bits 255).toNat=((255-x:Nat):Int):=bG
theorem VP(x:Nat):IntKind.u8.wrap (x:Int)=((x%256:Nat):Int):=by
 unfold IntKind.wrap;simp[IntKind.bits,IntKind.signed]
theorem De(M i:Nat)(h:i<8):(M:Int).fdiv (2^min (8*(i:Int)).toNat IntKind.u64.bits)=((M / 256^i:Nat):Int):=by
 show(M:Int).fdiv (2^min (8*(i:Int)).toNat 64)=((M / 256^i:Nat):Int);have e:(2:Int)^(8*i)=((256^i:Nat):Int):=by
  rw[Int.pow_mul,Int.natCast_pow];rfl
 rw[show min (8*(i:Int)).toNat 64=8*i by omega,e,Int.fdiv_eq_ediv_of_nonneg _ (Int.natCast_nonneg _),Int.natCast_ediv]
section
attribute[local simp] aR bK bE aO
attribute[local simp] kJ.cond
theorem VQ(n:Int)(Y:0<=n)(h:Vk n):Ok prog 59 [aI n] ⟨.own 1 ((yZ n).map bD),true⟩:=by
 refine bU func59 rfl ntmps59 results59 λw0 X p=>?_;have r:=PO h;have l:(uO n:Int)=n:=by unfold uO;rw[if_neg aD];omega
 have J:yZ n=(128+(gW 8 (uO n)).length)::(gW 8 (uO n)).reverse:=by unfold yZ;rw[if_neg aD];simp[show¬n<0 by omega]
 have w:=HX 8 (uO n);obtain⟨h1,P⟩:=h;obtain⟨M,U⟩:∃M,M=uO n:=⟨_,rfl⟩;rw[<-U]at l r J w;apply aE;simp;refine fF.scope ?_;apply aE;simp[ZW Y P];apply aF;apply bF;simp[(show¬n<0 by omega)];apply aG;simp;apply aE;simp;apply aF;refine fF.label ?_;simp;refine bI (ι:=Nat×Int) (λ⟨k,o⟩=>bB [(3,.d (.int .u64 (M:Int))),(4,.d (.int .u8 o)),(5,.d (aI k))]) (λ⟨k,o⟩=>aK []) (λ⟨k,o⟩=>(gW 8 M).length=k/\k<=8/\o=0) ?_ λ⟨k,o⟩ v=>?_
 .apply aY;refine bC (ι:=Nat) (λk=>bB [(3,.d (.int .u64 (M:Int))),(4,.d (.int .u8 0)),(5,.d (aI k))]) (λk=>aK []) (λk=>k<=8/\M<256^k) (λk=>k) 8 (aA p [3,4,5] [] (by simp[l])) (⟨A0 _,r⟩) λk a=>?_;apply aF;apply bF;simp;refine⟨λQ=>?_,λQ=>?_⟩
  .apply aG;simp;apply aY;apply fL;have W:0<k:=aD;obtain⟨i,V⟩:∃i,k=i+1:=⟨k-1,aD⟩;have A:i<8:=aD;have e:=De M i A;obtain⟨D,q⟩:∃D,D=M / 256^i:=⟨_,rfl⟩;rw[<-q]at e;have C:((k:Int)- 1)=(i:Int):=aD;apply aJ;simp[C,e];refine⟨aD,?_⟩;apply aM;simp;refine⟨λS=>?_,λS=>?_⟩
   .apply bQ;simp;refine Xv.mk (k,0) (aA p [3,4,5] []) ?_;refine⟨sX 8 M k a.2 (.inr ?_) a.1,a.1,rfl⟩;subst V;have m:0<M / 256^i:=by rw[<-q];omega
    rw[C9];exact(D9 (D5 bG)).1 m |> λh=>by simpa using h
   .apply aG;simp;apply aJ;simp;refine⟨aD,?_⟩;refine Oe.mk (k-1) (aA p [3,4,5] [] (by simp[show((k-1:Nat):Int)=(k:Int)- 1 by omega])) ?_ ?_
    .refine⟨aD,?_⟩;rw[show k-1=i by omega];have m:M / 256^i<1:=by rw[<-q];omega
     simpa using(E0 (D5 bG)).1 m
    .omega
  .apply bQ;simp;refine Xv.mk (k,0) (aA p [3,4,5] []) ?_;exact⟨sX 8 M k a.2 (.inl aD) a.1,a.1,rfl⟩
 .apply aF;obtain⟨s,Z,I⟩:=v;have G:IntKind.u8.wrap (128+(k:Int))=128+(k:Int):=Kr aD aD;have b:=KA (128+k) aD;rw[<-I]at b;rw[show((128+k:Nat):Int)=128+(k:Int)by omega]at b;simp at b;apply aJ;simp[G,b];refine⟨aD,?_⟩;apply eT;simp;refine⟨aD,?_⟩;apply aY;refine bC (ι:=Nat) (λj=>bB [(3,.d (.int .u64 (M:Int))),(4,.d (.int .u8 o)),(6,.ow 6 0 (j+1)),(7,.d (aI ((k:Int)- 1-(j:Int))))]) (λj=>aK [(6,.row false 1 (CP (128+k) (gW 8 M).reverse j))]) (λj=>j<=k) (λj=>k-j) 0 (aA p [3,4,6,7] [(29,6)] (hH:=by simp[bD,GI])) (A7 _) λj N=>?_;apply aF;apply bF;simp;refine⟨λt=>?_,λt=>?_⟩
  .apply aG;simp;apply eE;have O:j<k:=aD;have B:(k:Int)- 1-(j:Int)=((k-1-j:Nat):Int):=aD;have e:=De M (k-1-j) aD;have E:(gW 8 M).reverse.length=k:=by rw[C1];exact s
   have g:=GJ (hd:=128+k) (L:=(gW 8 M).reverse) (j:=j) aD;have z:(gW 8 M).reverse[j]'aD=M / 256^(k-1-j)%256:=by
    have h:=EH 8 M (k-1-j) aD;rw[E2];rw[A3 aD]at h;simp only[s];exact Option.some.inj h
   rw[z]at g;have F:=VP (M / 256^(k-1-j));have b:=KA (M / 256^(k-1-j)%256) (F9 _ bG);rw[<-I]at b;obtain⟨D,q⟩:∃D,D=M / 256^(k-1-j):=⟨_,rfl⟩;rw[<-q]at e F b g;obtain⟨H,u⟩:∃H,H=D%256:=⟨_,rfl⟩;rw[<-u]at F b g;simp at b;have f:=yN (hd:=128+k) (L:=(gW 8 M).reverse) (j:=j) aD;have d:=wK (hd:=128+k) (L:=(gW 8 M).reverse) (j:=j) aD;apply aJ;simp[B,e,F,b,f,d];refine⟨aD,?_⟩;apply aJ;simp;refine⟨aD,?_⟩;refine Oe.mk (j+1) (aA p [3,4,6,7] [(45,6)] (by simp[show((k-1-j:Nat):Int)- 1=(k:Int)- 1-((j:Int)+1)by omega]) (by simp[g,bD])) ?_ ?_
   .omega
   .omega
  .apply bQ;simp;apply aE;simp;apply aH;have O:j=k:=aD;subst O;have E:(gW 8 M).reverse.length=j:=by rw[C1];exact s
   have d:=wK (hd:=128+j) (L:=(gW 8 M).reverse) (j:=j) aD;have f:=yN (hd:=128+j) (L:=(gW 8 M).reverse) (j:=j) aD;rw[J,s,<-Ks (hd:=128+j) (L:=(gW 8 M).reverse) (j:=j) aD];simp[d,f];intro x b c K;obtain⟨y,_,rfl⟩:=C8.1 b;simp[bD,aQ]at K;subst K;rfl
theorem VR(n:Int)(u:n<0)(h:Vk n):Ok prog 59 [aI n] ⟨.own 1 ((yZ n).map bD),true⟩:=by
 refine bU func59 rfl ntmps59 results59 λw0 X q=>?_;have t:=PO h;have m:(uO n:Int)= -1-n:=by unfold uO;rw[if_pos u];omega
 have P:yZ n=(127-(gW 8 (uO n)).length)::((gW 8 (uO n)).map (λd=>255-d)).reverse:=by unfold yZ;rw[if_pos u];simp[u]
 have C:=HX 8 (uO n);obtain⟨V,h2⟩:=h;obtain⟨M,Z⟩:∃M,M=uO n:=⟨_,rfl⟩;rw[<-Z]at m t P C;apply aE;simp;refine fF.scope ?_;apply aE;simp;apply aF;apply bF;simp[u];have s:=Yb V u;simp at s;have B:IntKind.u64.wrap ((((if IntKind.u64.signed=true then -1 else IntKind.u64.max)%2^IntKind.u64.bits).toNat^^^(IntKind.u64.wrap n%2^IntKind.u64.bits).toNat:Nat):Int)= -1-n:=by
  rw[if_neg bG,show(2:Int)^IntKind.u64.bits=18446744073709551616 by rfl];exact s
 apply aJ;simp[B];apply aE;simp;apply aF;refine fF.label ?_;simp;refine bI (ι:=Nat×Int) (λ⟨k,p⟩=>bB [(3,.d (.int .u64 (M:Int))),(4,.d (.int .u8 p)),(5,.d (aI k))]) (λ⟨k,p⟩=>aK []) (λ⟨k,p⟩=>(gW 8 M).length=k/\k<=8/\p=255) ?_ λ⟨k,p⟩ A=>?_
 .apply aY;refine bC (ι:=Nat) (λk=>bB [(3,.d (.int .u64 (M:Int))),(4,.d (.int .u8 255)),(5,.d (aI k))]) (λk=>aK []) (λk=>k<=8/\M<256^k) (λk=>k) 8 (aA q [3,4,5] [] (by simp[m])) (⟨A0 _,t⟩) λk a=>?_;apply aF;apply bF;simp;refine⟨λW=>?_,λW=>?_⟩
  .apply aG;simp;apply aY;apply fL;have a0:0<k:=aD;obtain⟨i,hi⟩:∃i,k=i+1:=⟨k-1,aD⟩;have F:i<8:=aD;have f:=De M i F;obtain⟨D,r⟩:∃D,D=M / 256^i:=⟨_,rfl⟩;rw[<-r]at f;have H:((k:Int)- 1)=(i:Int):=aD;apply aJ;simp[H,f];refine⟨aD,?_⟩;apply aM;simp;refine⟨λY=>?_,λY=>?_⟩
   .apply bQ;simp;refine Xv.mk (k,255) (aA q [3,4,5] []) ?_;refine⟨sX 8 M k a.2 (.inr ?_) a.1,a.1,rfl⟩;subst hi;have o:0<M / 256^i:=by rw[<-r];omega
    rw[C9];exact(D9 (D5 bG)).1 o |> λh=>by simpa using h
   .apply aG;simp;apply aJ;simp;refine⟨aD,?_⟩;refine Oe.mk (k-1) (aA q [3,4,5] [] (by simp[show((k-1:Nat):Int)=(k:Int)- 1 by omega])) ?_ ?_
    .refine⟨aD,?_⟩;rw[show k-1=i by omega];have o:M / 256^i<1:=by rw[<-r];omega
     simpa using(E0 (D5 bG)).1 o
    .omega
  .apply bQ;simp;refine Xv.mk (k,255) (aA q [3,4,5] []) ?_;exact⟨sX 8 M k a.2 (.inl aD) a.1,a.1,rfl⟩
 .apply aF;obtain⟨v,c2,O⟩:=A;have K:IntKind.u8.wrap (128+(k:Int))=128+(k:Int):=Kr aD aD;have b:=PR (128+k) aD;rw[<-O]at b;rw[show((128+k:Nat):Int)=128+(k:Int)by omega,show 255-(128+k)=127-k by omega]at b;simp at b;apply aJ;simp[K,b];refine⟨aD,?_⟩;apply eT;simp;refine⟨aD,?_⟩;apply aY;refine bC (ι:=Nat) (λj=>bB [(3,.d (.int .u64 (M:Int))),(4,.d (.int .u8 p)),(6,.ow 6 0 (j+1)),(7,.d (aI ((k:Int)- 1-(j:Int))))]) (λj=>aK [(6,.row false 1 (CP (127-k) ((gW 8 M).map (λd=>255-d)).reverse j))]) (λj=>j<=k) (λj=>k-j) 0 (aA q [3,4,6,7] [(29,6)] (hH:=by simp[bD,GI])) (A7 _) λj S=>?_;apply aF;apply bF;simp;refine⟨λw=>?_,λw=>?_⟩
  .apply aG;simp;apply eE;have U:j<k:=aD;have G:(k:Int)- 1-(j:Int)=((k-1-j:Nat):Int):=aD;have f:=De M (k-1-j) aD;have I:((gW 8 M).map (λd=>255-d)).reverse.length=k:=by rw[C1,A6];exact v
   have l:=GJ (hd:=127-k) (L:=((gW 8 M).map (λd=>255-d)).reverse) (j:=j) aD;have E:((gW 8 M).map (λd=>255-d)).reverse[j]'aD=255-M / 256^(k-1-j)%256:=by
    have h:=EH 8 M (k-1-j) aD;rw[E2,List.getElem_map];rw[A3 aD]at h;simp only[A6,v];rw[Option.some.inj h]
   rw[E]at l;have J:=VP (M / 256^(k-1-j));have b:=PR (M / 256^(k-1-j)%256) (F9 _ bG);rw[<-O]at b;obtain⟨D,r⟩:∃D,D=M / 256^(k-1-j):=⟨_,rfl⟩;rw[<-r]at f J b l;obtain⟨N,z⟩:∃N,N=D%256:=⟨_,rfl⟩;rw[<-z]at J b l;simp at b;have g:=yN (hd:=127-k) (L:=((gW 8 M).map (λd=>255-d)).reverse) (j:=j) aD;have e:=wK (hd:=127-k) (L:=((gW 8 M).map (λd=>255-d)).reverse) (j:=j) aD;apply aJ;simp[G,f,J,b,g,e];refine⟨aD,?_⟩;apply aJ;simp;refine⟨aD,?_⟩;refine Oe.mk (j+1) (aA q [3,4,6,7] [(45,6)] (by simp[show((k-1-j:Nat):Int)- 1=(k:Int)- 1-((j:Int)+1)by omega]) (by simp[l,bD])) ?_ ?_
   .omega
   .omega
  .apply bQ;simp;apply aE;simp;apply aH;have U:j=k:=aD;subst U;have I:((gW 8 M).map (λd=>255-d)).reverse.length=j:=by rw[C1,A6];exact v
   have e:=wK (hd:=127-j) (L:=((gW 8 M).map (λd=>255-d)).reverse) (j:=j) aD;have g:=yN (hd:=127-j) (L:=((gW 8 M).map (λd=>255-d)).reverse) (j:=j) aD;rw[P,v,<-Ks (hd:=127-j) (L:=((gW 8 M).map (λd=>255-d)).reverse) (j:=j) aD];simp[e,g];intro x b c Q;obtain⟨y,_,rfl⟩:=C8.1 b;simp[bD,aQ]at Q;subst Q;rfl
theorem Yc(n:Int)(h:Vk n):Ok prog 59 [aI n] ⟨.own 1 ((yZ n).map bD),true⟩:=by
 rcases Int.lt_or_le n 0 with q|q
 .exact VR n q h
 .exact VQ n q h
end
section
attribute[local simp] lX lY oG lZ jR oH mC mD rD oI oJ oK oL oM
attribute[local simp] rE pK oN wM oO oP iA kJ.cond aU IA fP bO rF rG mE wO wP wN mF mN rV oQ oS wR wS rH oT oU Aa Ab tW wQ nN
def zS:List LV:=dJ ⟨⟨0,0,0,0,0,0,0,0⟩,A2 64 0,0⟩
theorem Yd:zS=A2 8 (.d (.int .u32 0))++A2 64 (.d (.int .u8 0))++[.d (.int .u64 0)]:=rfl
theorem VS(σ:List (Nat×Nat)):zS.map (ren σ 8)=zS:=mN _ _
theorem VT:zS.length=73:=gE rfl
theorem VU:Ok prog 55 [] ⟨.d (.agg (kI tV)),true⟩:=by
 refine Cp func55 rfl ntmps55 results55 λb X a=>?_;apply aE;simp;apply aE;simp[bE];apply aH;simp;rfl
theorem Sb(s:aV)(h:s.length<=2000000000):Ok prog 57 [.str s] ⟨.own 1 ((wG s).map bD),true⟩:=by
 refine bU func57 rfl ntmps57 results57 λk X i=>?_;apply aE;simp;apply aF;have g:=Kt (s.length:Int);have d:B1 (yZ s.length).length ((yZ s.length).map bD)=(yZ s.length).map bD:=A1 bA;refine bH (og 5 (.plain ⟨.own 1 ((yZ s.length).map bD),true⟩)) ?_;simp[d];refine⟨⟨Yc _ (aAJ aD),aD⟩,?_⟩;apply aH;have a:=Kv s;have e:(yZ s.length).map bD++s.map (λb=>DV.int .u8 b.toNat)=(wG s).map bD:=by simp[wG,bD]
 simp[a,e];refine⟨A1 (by simp[a]),?_⟩;intro x j c f;simp[bD,aQ]at f;subst f;rfl
theorem Ni(st:gV)(x:aV)(M:st.B.length=64)(P:st.n+x.length<1099511627776):Ok prog 56 [.agg (kI st),.str x] ⟨.d (.agg (kI (wJ st x))),true⟩:=by
 refine Cp func56 rfl ntmps56 results56 λQ X C=>?_;apply aE;simp;apply eE;refine bC (ι:=gV×aV) (λ⟨p,y⟩=>bB [(1,.d (.str y)),(2,.bx 2 0),(4,.bx 4 0)]) (λ⟨p,y⟩=>aK [(2,.box false (dJ p)),(4,.box false zS)]) (λ⟨p,y⟩=>p.B.length=64/\wJ p y=wJ st x/\p.n+y.length=st.n+x.length) (λ⟨p,y⟩=>y.length) (st,x) (aA C [1,2,4] [(2,2),(4,4)] (hH:=by simp[Yd])) (⟨M,rfl,rfl⟩) λ⟨p,y⟩ m=>?_;apply aF;apply bF;simp;refine⟨λj=>?_,λj=>?_⟩
 .apply aG;simp;apply aY;apply aF;obtain⟨e,u,O⟩:=m;have a:=gE e;have z:=Nh (Na e);have g:((p.n:Int)).tmod 64=((p.n%64:Nat):Int):=by rw[A8 aD];omega
  obtain⟨r,v⟩:∃r,r=p.n%64:=⟨_,rfl⟩;have K:r<64:=aD;rw[<-v]at g;have G:=GG (n:=r) aD;have H:=sV (n:=r) aD;apply aJ;simp[a,z,g,G,H];apply aF;have I:((64:Int)-(r:Int)).toNat=64-r:=aD;have D:=RP e (k:=r) (y:=y.take (64-r)) (by rw[B7];omega);have b:(bE r p.B (y.take (64-r))).length=64:=by rw[BM (by rw[B7,e];omega),e]
  apply aJ;simp[a,I,D];refine⟨aD,?_⟩;apply aF;have d:gL p y=min y.length (64-r):=by unfold gL;rw[<-v]
  have B:gL p y<=y.length:=aD;obtain⟨k,h⟩:∃k,k=gL p y:=⟨_,rfl⟩;rw[<-h]at d B;apply aJ;simp[<-d];refine⟨aD,?_⟩;apply aF;have o:=gE (st:=⟨p.s,bE r p.B (y.take (64-r)),p.n⟩) b;have l:=Nh (Na (st:=⟨p.s,bE r p.B (y.take (64-r)),p.n⟩) b);have A:=sV (n:=k) aD;have s:=sV (n:=p.n+k) aD;rw[show((p.n+k:Nat):Int)=(p.n:Int)+(k:Int)by omega]at s;have t:=RQ (st:=⟨p.s,bE r p.B (y.take (64-r)),p.n⟩) b (p.n+k);rw[show((p.n+k:Nat):Int)=(p.n:Int)+(k:Int)by omega]at t;apply aJ;simp[o,l,A,s,t];apply aE;simp;refine⟨aD,?_⟩;apply aM;simp;refine⟨λL=>?_,λL=>?_⟩
  .have q:=gE (st:=⟨p.s,bE r p.B (y.take (64-r)),p.n+k⟩) b;have J:=ZN ⟨p.s,bE r p.B (y.take (64-r)),p.n+k⟩;have E:=RR ⟨p.s,bE r p.B (y.take (64-r)),p.n+k⟩ (comp p.s (bE r p.B (y.take (64-r))));refine fF.rd [] [[],[],[],[],[2],[],[2]] (og 35 (.gen ⟨[(2,0)],[],[],[(0,.box false (dJ ⟨p.s,bE r p.B (y.take (64-r)),p.n+k⟩))],.d (.agg (HY (comp p.s (bE r p.B (y.take (64-r))))))⟩)) ?_;simp[q,J,E,Dd,HZ];refine⟨Kz ⟨p.s,bE r p.B (y.take (64-r)),p.n+k⟩ p.s b,?_⟩;have i:uJ p y=⟨comp p.s (bE r p.B (y.take (64-r))),bE r p.B (y.take (64-r)),p.n+k⟩:=by unfold uJ;rw[<-v,<-h,if_pos aD]
   refine Oe.mk (uJ p y,y.drop (gL p y)) (aA C [1,2,4] [(2,2),(4,4)] (by simp[<-h]) (by simp[i,VS])) ?_ ?_
   .refine⟨Vm e y,(GH j).trans u,?_⟩;show p.n+gL p y+(y.drop (gL p y)).length=_;rw[C4,<-h];omega
   .show(y.drop (gL p y)).length<y.length;have:=wF (st:=p) j;rw[C4];omega
  .apply aG;simp;have i:uJ p y=⟨p.s,bE r p.B (y.take (64-r)),p.n+k⟩:=by unfold uJ;rw[<-v,<-h,if_neg aD]
   refine Oe.mk (uJ p y,y.drop (gL p y)) (aA C [1,2,4] [(2,2),(4,4)] (by simp[<-h]) (by simp[i,VS])) ?_ ?_
   .refine⟨Vm e y,(GH j).trans u,?_⟩;show p.n+gL p y+(y.drop (gL p y)).length=_;rw[C4,<-h];omega
   .show(y.drop (gL p y)).length<y.length;have:=wF (st:=p) j;rw[C4];omega
 .apply bQ;simp;apply aF;obtain⟨e,u,O⟩:=m;subst j;rw[Vn]at u;have a:=gE e;have f:=AV e;have w:=pS e;have F:bE 0 zS (dJ p)=dJ p:=eO (by rw[VT,a];exact A0 _);apply aJ;simp[a,f,w,F,VT];apply aH;subst u;simp[a,f];intro c N;obtain⟨k,n,rfl⟩:=Vy _ c N;rfl
theorem Ye(a:gV)(m:aV)(F:wE m a)(hm:m.length<549755813888):Ok prog 58 [.agg (kI a)] ⟨.d (.agg (jD (HW m))),true⟩:=by
 refine Cp func58 rfl ntmps58 results58 λw0 X r=>?_;obtain⟨t,h,_,_⟩:=id F;have f:=gE t;have v:=Nh (Na t);obtain⟨n,hn⟩:∃n,n=m.length:=⟨_,rfl⟩;rw[<-hn]at h hm;have b:=F.hash;have K:IntKind.u64.wrap (8*(n:Int))=8*(n:Int):=sV (n:=8*n) aD;have s:DV.int .u8 128=pJ 128:=rfl;have D:DV.int .u8 0=pJ 0:=rfl;apply aE;simp;apply aE;simp[f,v,h,K];apply aE;simp;apply eE;refine bC (ι:=Nat) (λj=>bB [(1,.bx 1 0),(2,.bx 2 0),(3,.d (.int .u64 (8*(n:Int)))),(4,.ow 4 0 (1+j))]) (λj=>aK [(1,.box false (dJ a)),(2,.box false (tX a.s 0)),(4,.row false 1 ((128::A2 j 0).map pJ))]) (λj=>j<=(119-n%64)%64) (λj=>64-j) 0 (aA r [1,2,3,4] [(1,1),(2,2),(11,4)] (hH:=by simp[s,D,GL])) (A7 _) λj a1=>?_;apply fL;have J:=GG (n:=n) aD;have w:((n:Int)+(1+(j:Int))).tmod 64=(((n+1+j)%64:Nat):Int):=by rw[A8 aD];omega
 apply aJ;simp[f,v,h,J,w];refine⟨aD,?_⟩;apply aM;simp;refine⟨λh3=>?_,λh3=>?_⟩
 .apply aG;simp;apply aY;have d:B1 (1+j) (pJ 128::A2 j (pJ 0))=pJ 128::A2 j (pJ 0):=A1 kH;have P:A2 j (pJ 0)++[pJ 0]=A2 (j+1) (pJ 0):=List.replicate_succ'.symm;apply aJ;simp;refine⟨aD,?_⟩;refine Oe.mk (j+1) (aA r [1,2,3,4] [(1,1),(2,2),(22,4)] (by simp[C2]) (by simp[D,d,P])) ?_ ?_
  .omega
  .omega
 .apply bQ;simp;apply fL;have Z:j=(119-n%64)%64:=aD;apply aJ;simp;apply aY;refine bC (ι:=Nat) (λi=>bB [(1,.bx 1 0),(2,.bx 2 0),(3,.d (.int .u64 (8*(n:Int)))),(4,.ow 4 0 (AY n i).length),(23,.d (aI i))]) (λi=>aK [(1,.box false (dJ a)),(2,.box false (tX a.s 0)),(4,.row false 1 ((AY n i).map pJ))]) (λi=>i<=8) (λi=>8-i) 0 (aA r [1,2,3,4,23] [(1,1),(2,2),(4,4)] (by simp[GM,<-Z,F7]) (by simp[GM,<-Z])) (A7 _) λi a2=>?_;apply aE;simp;apply aF;apply aM;simp;refine⟨λh6=>?_,λh6=>?_⟩
  .apply aG;simp;apply eE;apply aE;simp;have B:=VJ (8*n) (i:=i) aD;have d:B1 (AY n i).length ((AY n i).map pJ)=(AY n i).map pJ:=A1 bA;rw[show((8*n:Nat):Int)=8*(n:Int)by omega]at B;have W:DV.int .u8 (IntKind.u8.wrap (8*(n:Int) / 256^(7-i)))=pJ (C3 (8*n / 256^(7-i))):=by rw[<-YU];simp
   have y:=Kx n (i:=i) aD;apply aJ;simp[B,d];refine⟨aD,?_⟩;apply aJ;simp;refine⟨aD,?_⟩;refine Oe.mk (i+1) (aA r [1,2,3,4,23] [(1,1),(2,2),(34,4)] (by simp[GN n (show i<8 by omega)]) (by simp[GN n (show i<8 by omega),W])) ?_ ?_
   .omega
   .omega
  .apply bQ;simp;apply aF;have G:i=8:=aD;subst G;rw[Kw];have u:=AV t;have a0:=pS t;have y:=Kx n (i:=8) aD;rw[Kw]at y;have d:B1 (AU n).length ((AU n).map pJ)=(AU n).map pJ:=A1 bA;have I:=aAL (AU n);have l:=Ni a (AU n) t aD;rw[h]at b;obtain⟨q,hq⟩:∃q,q=wJ a (AU n):=⟨_,rfl⟩;rw[<-hq]at b l;have A:q.B.length=64:=by rw[hq];exact(zZ F _).1
   have p:=gE A;have N:=pS A;have o:bE 0 (dJ a) (dJ q)=dJ q:=eO (by rw[f,p];exact A0 _);refine bH (og 39 (.plain ⟨.d (.agg (kI q)),true⟩)) ?_;simp[f,u,d,I,N,p,o];refine⟨⟨λ_ _=>⟨_,rfl⟩,l⟩,?_⟩;apply aE;simp;apply eT;simp;apply aY;refine bC (ι:=Nat) (λi=>bB [(1,.bx 1 0),(2,.bx 2 0),(6,.bx 6 0),(40,.d (aI i))]) (λi=>aK [(1,.box false (dJ q)),(2,.box false (tX a.s 0)),(6,.box false (tX q.s i))]) (λi=>i<=32) (λi=>32-i) 0 (aA r [1,2,6,40] [(1,1),(2,2),(6,6)] (hH:=by simp[GL,D])) (A7 _) λi Y=>?_;apply aE;simp;apply aF;apply aM;simp;refine⟨λE=>?_,λE=>?_⟩
   .apply aG;simp;apply eE;apply aE;simp;have M:((i:Int) / 4).toNat=i / 4:=aD;have O:((i:Int)).tmod 4=(i:Int)%4:=A8 aD;have S:=ZU q (i:=i / 4) aD;have Q:((24:Int)- 8*((i:Int)%4)).toNat=24-8*(i%4):=aD;have g:=EF q.s (i:=i) aD;have z:=VI q.s (show i<32 by omega);apply aJ;simp[M,O,S,Q,g,p];refine⟨aD,?_⟩;apply aJ;simp;refine⟨aD,?_⟩;refine Oe.mk (i+1) (aA r [1,2,6,40] [(1,1),(2,2),(6,6)] (hH:=by simp[z])) ?_ ?_
    .omega
    .omega
   .apply bQ;simp;apply aF;have G:i=32:=aD;subst G;have g:=EF q.s (i:=32) aD;have L:B1 32 (tX q.s 32)=tX q.s 32:=A1 (by rw[g];exact A0 _);have x:=VH q.s;rw[b]at x;have H:zJ (tX q.s 32)=some (jD (HW m)):=by rw[x];exact kS _
    have C:=EF a.s (i:=0) aD;have e:(jD (HW m)).length=32:=by simp[jD,Ia]
    have o:bE 0 (tX a.s 0) ((jD (HW m)).map LV.d)=(jD (HW m)).map LV.d:=eO (by rw[C,A6,e];exact A0 _);apply aJ;simp[g,L,H,C,e,o];apply aH;have V:B1 32 ((jD (HW m)).map LV.d)=(jD (HW m)).map LV.d:=A1 (by simp[e]);have U:=kS (jD (HW m));simp[e,V,U];intro c hc;obtain⟨k,n,rfl⟩:=Ib _ c hc;rfl
end
section
attribute[local simp] lX lY oG lZ jR oH mC mD rD oI oJ oK oL oM
attribute[local simp] rE pK oN wM oO oP iA kJ.cond aU IA fP bO rF rG mE wO wP wN mF mN rV oQ oS wR wS rH oT oU Aa Ab tW wQ nN sU
theorem aAN(a:Nat)(parts:List aV)(S:parts.length<=200)(H:∀s∈parts,s.length<=2000000000):Ok prog 13 [aI a,.sl (parts.map .str)] ⟨.d (.agg (jD (RU a parts))),true⟩:=by
 refine Cp func13 rfl ntmps13 results13 λU X G=>?_;have P:DV.int .u8 (IntKind.u8.wrap (a:Int))=pJ (C3 a):=YU a;have F:∀s∈parts,(wG s).length<=2000000009:=λs h=>by
  have:=H s h;have:=Kt (s.length:Int);rw[Kv];omega
 have E:∀i,(Nb a (parts.take i)).length<=400000002000:=λi=>by
  have Q:=PQ a (k:=2000000009) (parts:=parts.take i) λs h=>F s (List.mem_of_mem_take h);have J:(parts.take i).length<=200:=by rw[B7];omega
  have g:(parts.take i).length*2000000009<=200*2000000009:=Nat.mul_le_mul J (A0 _);omega
 have t:(jD (HW (Nb a parts))).length=32:=by simp[jD,Ia]
 apply aE;simp;apply aF;refine fF.rd [[12,5],[5,9],[5,9],[5,9],[5,9],[5],[12,14,9]] [[9],[],[],[12],[],[14],[5],[5]] (λ|9=>some<| .plain ⟨.d (.agg (kI tV)),true⟩|14=>some<| .plain ⟨.d (.agg (kI (wJ tV [C3 a]))),true⟩|_=>none) ?_;simp[P];refine⟨⟨⟨⟨VU,_,rfl⟩,Ni tV [C3 a] rfl (E5 (show 1<2 by decide) bG)⟩,pS (pT a parts 0 (A7 _)).1⟩,?_⟩;apply fL;have I:DV.int .u8 0=pJ 0:=rfl;have x:∀Z:List LV,Z.length=73->bE 0 Z (dJ (wJ tV [C3 a]))=dJ (wJ tV [C3 a]):=λZ p=>eO (by rw[p,gE (st:=wJ tV [C3 a]) (pT a parts 0 (A7 _)).1];exact A0 _);apply aJ;simp;apply aY;refine bC (ι:=Nat) (λi=>bB [(4,.bx 4 0),(5,.bx 5 0),(15,.d (.sl (parts.map .str))),(16,.d (aI parts.length)),(17,.d (aI i))]) (λi=>aK [(4,.box false (A2 16 (.d (pJ 0)))),(5,.box false (dJ (SM a parts i)))]) (λi=>i<=parts.length) (λi=>parts.length-i) 0 (aA G [4,5,15,16,17] [(4,4),(5,5)] (hH:=by simp[I,SM,x])) (A7 _) λi N=>?_;apply aE;simp;apply aF;apply aM;simp;refine⟨λg=>?_,λg=>?_⟩
 .apply aG;simp;apply eE;apply aE;simp[g];have j:=pT a parts i aD;have m:=pT a parts (i+1) aD;have u:=j.1;have e:=gE u;have d:=AV u;have O:=F parts[i] (B8 g);have z:=H parts[i] (B8 g);have C:B1 (wG parts[i]).length ((wG parts[i]).map bD)=(wG parts[i]).map bD:=A1 bA;have w:=ZQ (wG parts[i]);have A:SM a parts (i+1)=wJ (SM a parts i) (toS (wG parts[i])):=by rw[SM,A5,A3 g];rfl
  have o:=E i;have D:=Ni (SM a parts i) (toS (wG parts[i])) u (by rw[j.2.1,PP];omega);rw[<-A]at D;have f:=gE m.1;have v:=pS m.1;have y:bE 0 (dJ (SM a parts i)) (dJ (SM a parts (i+1)))=dJ (SM a parts (i+1)):=eO (by rw[e,f];exact A0 _);refine fF.rd [[23]] [[],[],[23],[],[25],[5]] (λ|23=>some<| .plain ⟨.own 1 ((wG parts[i]).map bD),true⟩|25=>some<| .plain ⟨.d (.agg (kI (SM a parts (i+1)))),true⟩|_=>none) ?_;simp[g,C,w,e,d,f,v];refine⟨⟨⟨Sb _ z,λ_ _=>⟨_,rfl⟩⟩,D⟩,?_⟩;apply aJ;simp;refine⟨aD,?_⟩;refine Oe.mk (i+1) (aA G [4,5,15,16,17] [(4,4),(5,5)] (hH:=by simp[y])) ?_ ?_
  .omega
  .omega
 .apply bQ;simp;apply aF;have M:i=parts.length:=aD;subst M;have j:=pT a parts parts.length (A0 _);have o:=E parts.length;rw[C5]at j o;have e:=gE j.1;have d:=AV j.1;have l:∀Z:List LV,Z.length<=32->bE 0 Z ((jD (HW (Nb a parts))).map LV.d)=(jD (HW (Nb a parts))).map LV.d:=λZ p=>eO (by rw[A6,t];exact p);refine bH (og 28 (.plain ⟨.d (.agg (jD (HW (Nb a parts)))),true⟩)) ?_;simp[e,d,t,l];refine⟨Ye _ _ j aD,?_⟩;apply aF;have K:((jD (HW (Nb a parts))).map LV.d).length=32:=by rw[A6,t]
  have r:B1 16 ((jD (HW (Nb a parts))).map LV.d)=(jD (RU a parts)).map LV.d:=by simp[jD,RU]
  have q:=kS (jD (RU a parts));have b:(jD (RU a parts)).length=16:=by simp[jD,Dc]
  have l:∀Z:List LV,Z.length<=16->bE 0 Z ((jD (RU a parts)).map LV.d)=(jD (RU a parts)).map LV.d:=λZ p=>eO (by rw[A6,b];exact p);apply aJ;simp[t,r,q,b,l];apply aH;have B:B1 16 ((jD (RU a parts)).map LV.d)=(jD (RU a parts)).map LV.d:=A1 (by simp[b]);simp[b,B,q];intro c L;obtain⟨k,n,rfl⟩:=Ib _ c L;rfl
set_option maxRecDepth 100000
end
section
attribute[local simp] lX lY oG lZ jR oH mC mD rD oI oJ oK oL oM
attribute[local simp] rE pK oN wM oO oP iA kJ.cond aU IA fP bO rF rG mE wO wP wN mF mN rV oQ oS wR wS rH oT oU Aa Ab tW wQ nN sU
set_option maxRecDepth 100000
end
section
attribute[local simp] lX lY oG lZ jR oH mC mD rD oI oJ oK oL oM
attribute[local simp] rE pK oN wM oO oP iA kJ.cond aU IA fP bO rF rG mE wO wP wN mF mN rV oQ oS wR wS rH oT oU Aa Ab tW wQ nN sU
end
structure dC where
 bk:Int
 kind:Int
 name:aV
 field:aV
def dC.d(u:dC):DV:=.agg [aI u.kind,.str u.name,.str u.field]
def GO:List Int:=[34,35,13,14,17,18,15,16,22,23]
def wT:List Int:=[0,1,5,5,3,3,2,2,4,4]
def ZX(k:Int):Option Int:=(GO.findIdx? (λx=>decide (k=x))).map λj=>wT.getD j 0
def yP(k:Int)(t:aV):List dC:=match ZX k with
 |some f=>[⟨k,f,zV 46 t,zW 46 t⟩]
 |none=>[]
mutual
def cA:Nd->List dC
 | .mk k t _ ks=>yP k t++gM ks
def gM:List Nd->List dC
 |[]=>[]
 |x::r=>cA x++gM r
end
theorem usesN_eq(x:Nd):cA x=yP x.kind x.text++gM x.kids:=by cases x;rw[cA];rfl
theorem usesL_append:∀(a b:List Nd),gM (a++b)=gM a++gM b
 |[],_=>rfl
 |x::a,b=>by rw[D7,gM,gM,usesL_append a b,List.append_assoc]
theorem usesL_succ{l:List Nd}{i:Nat}(a:i<l.length):gM (l.take (i+1))=gM (l.take i)++cA l[i]:=by
 rw[A4 a,usesL_append,gM,gM,F2]
theorem findD_int(k:Int):∀(l:List Int) (i:Nat),iM (aI k) (l.map aI) i=some ((l.findIdx? (λx=>decide (k=x))).map (·+i))
 |[],i=>rfl
 |x::r,i=>by
  have e:kL (aI k) (aI x)=some (decide (k=x)):=by simp[kL,FB]
  rw[E4,iM,e,D0];by_cases h:k=x
  .simp[h]
  .simp only[h,decide_false,D1,if_false];rw[findD_int k r (i+1)];cases r.findIdx? (λx=>decide (k=x))with
   |none=>rfl
   |some j=>simp;omega
def fitD:DV:=.mp (GO.map aI) (wT.map aI)
section
attribute[local simp] aR bK bE aO aL aZ aP
attribute[local simp] kJ.cond Nd.d_eq nd_t nd_dr nd_td ndsD aU zP
theorem fitting_ok:Ok prog 175 [] ⟨.d fitD,false⟩:=by
 refine bU func175 rfl ntmps175 results175 λb X a=>?_;apply aE;simp;apply aE;simp[cM];apply aH;simp[fitD,GO,wT]
theorem uses_ok(x:Nd):Ok prog 101 [x.d] ⟨.d (.fn 174 [.ro [aI x.kind,.str x.text,aI x.n,ndsD x.kids]]),false⟩:=by
 refine bU func101 rfl ntmps101 results101 λb X a=>?_;apply aE;simp;apply aE;simp;apply aH;simp
structure UsesCtx(F:Po prog)(y wv:Value)(us:List dC):Prop where
 yield:∀(i:Nat) (u:dC),us[i]? =some u->pE F (.val y) [aI u.bk,u.d] i 1 (.bool true)
 walk:∀K i W,F.T K i W->RD W (F.X K W) (.fn 176 [.ro [fitD],.ro [.val y],.ro [.val wv]]) wv
def WalkOk(F:Po prog)(wv:Value)(us:List dC)(x:Nd):Prop:=
 ∀i,(∀(j:Nat) (u:dC),(cA x)[j]? =some u->us[i+j]? =some u)->pE F (.val wv) [x.d] i (cA x).length (.bool true)
theorem bool_of{b:Bool}(w:World)(E:Nat->Prop)(v:Value)(h:RD w E (.bool b) v):v=.bool b:=by cases h;rfl
theorem int_of{n:Int}(w:World)(E:Nat->Prop)(v:Value)(h:RD w E (aI n) v):v=.int .i64 n:=by cases h;rfl
theorem clo_ok{F:Po prog}{d:Value}{b:List dC}{x:Nd}(h:WalkOk F d b x)(i:Nat)(f:∀(j:Nat) (u:dC),(cA x)[j]? =some u->b[i+j]? =some u):
 pE F (.fn 179 [.ro [.val d]]) [x.d] i (cA x).length (.bool false):=by
 have e:=h i f;refine kV (pins:=[2]) func179 jM (c:=_) rfl ntmps179 bA results179 bool_of jM ?_;repeat refine Fm.seq ?_
 refine DY λg X a=>Mu hT hW ?_;simp[gT];refine vS (λg a=>(iO.freeze [2]).trans (pD [1,2] [(2,2)] bG bG (by simp[a,dL]) rfl rfl)) ?_;simp;repeat refine Fm.seq ?_
 refine mX hT hW [(2,.box true [.d (aI x.kind),.d (.str x.text),.d (aI x.n),.d (.sl (x.kids.map Nd.d))])] rfl (by rfl) bA 2 rfl rfl rfl rfl bG (rd:=.bool true) (r:=.bool true) (λ_ _=>.bool _) e ?_;simp[gT];refine⟨rfl,?_⟩;refine Fm.ret ?_;exact⟨trivial,rfl,bA⟩
theorem ends_at{d:List dC}{a b:List dC}{i:Nat}(h:∀(j:Nat) (u:dC),(a++b)[j]? =some u->d[i+j]? =some u):(∀(j:Nat) (u:dC),a[j]? =some u->d[i+j]? =some u)/\∀(j:Nat) (u:dC),b[j]? =some u->d[i+a.length+j]? =some u:=by
 refine⟨λj u c=>h j u ?_,λj u c=>?_⟩
 .have:=(B9.1 c).1;rw[List.getElem?_append_left this];exact c
 .rw[C2];exact h (a.length+j) u (by rw[List.getElem?_append_right aD];rw[show a.length+j-a.length=j by omega];exact c)
theorem idx_eff{F:Po prog}{p:Value}{q:List dC}{a:List Nd}(h:∀k∈a,WalkOk F p q k)(i:Nat)(w:∀(j:Nat) (u:dC),(gM a)[j]? =some u->q[i+j]? =some u):
 pE F (.fn 259 []) [ndsD a,.fn 179 [.ro [.val p]]] i (gM a).length (.int .i64 (-1)):=by
 refine kV (pins:=[]) func259 jM (c:=_) rfl ntmps259 bA results259 int_of jM ?_;refine Fm.len (t:=0) rfl λg=>?_;simp at g;repeat refine Fm.seq ?_
 refine jY hT hW (λ_=>none) ?_;simp[gT];repeat refine Fm.seq ?_
 refine jY hT hW (λ_=>none) ?_;simp[gT];repeat refine Fm.seq ?_
 refine Fm.block ?_;refine Fm.loop (ι:=Nat) (λj=>bB [(0,.d (ndsD a)),(1,.d (.fn 179 [.ro [.val p]])),(7,.d (aI (a.length:Nat))),(8,.d (aI (j:Nat)))]) (λ_=>aK []) (λj=>i+(gM (a.take j)).length) (λj=>j<=a.length) (λj=>a.length-j) 0
  (λx o=>aA o [0,1,7,8] []) rfl (A7 _) λj y=>?_
 repeat refine Fm.seq ?_
 refine jY hT hW (λ_=>none) ?_;simp[gT];repeat refine Fm.seq ?_
 refine Fm.cond (b:=decide (j<a.length)) bA (λd=>?_) λf=>?_
 .have d:j<a.length:=by simpa using d
  obtain⟨k,l⟩:∃k,a[j]=k:=⟨_,rfl⟩;have m:k∈a:=by rw[<-l];exact B8 d
  have e:gM a=gM (a.take j)++(cA k++gM (a.drop (j+1))):=by
   conv=>lhs;rw[<-E1 j a]
   rw[usesL_append,List.drop_eq_getElem_cons d,gM,l]
  have s:=clo_ok (h k m) (i+(gM (a.take j)).length) (ends_at (ends_at (by rw[<-e];exact w)).2).1;have n:(gM (a.take (j+1))).length=(gM (a.take j)).length+(cA k).length:=by rw[usesL_succ d,E6,l]
  refine Fm.skip ?_;simp[gT];repeat refine Fm.seq ?_
  refine Fm.block ?_;repeat refine Fm.seq ?_
  refine jY hT hW (λ_=>none) ?_;simp[gT];repeat refine Fm.seq ?_
  refine mX hT hW [] rfl (by rfl) bA 5 rfl rfl rfl rfl bG (rd:=.bool false) (r:=.bool false) (λ_ _=>.bool _) s ?_;simp[gT,d,l];refine⟨rfl,?_⟩;refine Fm.cond (b:=false) bA (λh=>by cases h) λ_=>?_;refine Fm.skip ?_;simp[gT,CZ];refine jY hT hW (λ_=>none) ?_;simp[gT];refine⟨aD,j+1,λx o=>aA o [0,1,7,8] [],aD,aD,aD⟩
 .have f:¬j<a.length:=by simpa using f
  have v:j=a.length:=aD;subst v;refine Fm.exit ?_;simp[gT,CZ];repeat refine Fm.seq ?_
  refine jY hT hW (λ_=>none) ?_;simp[gT];refine Fm.ret ?_;exact⟨trivial,bA,bA⟩
theorem has_eff{F:Po prog}{d:Value}{b:List dC}{a:List Nd}(h:∀k∈a,WalkOk F d b k)(i:Nat)(f:∀(j:Nat) (u:dC),(gM a)[j]? =some u->b[i+j]? =some u):
 pE F (.fn 178 []) [ndsD a,.fn 179 [.ro [.val d]]] i (gM a).length (.bool false):=by
 have e:=idx_eff h i f;refine kV (pins:=[]) func178 jM (c:=_) rfl ntmps178 bA results178 bool_of jM ?_;repeat refine Fm.seq ?_
 refine jY hT hW (λ_=>none) ?_;simp[gT];repeat refine Fm.seq ?_
 refine mX hT hW [] rfl (by rfl) bA 2 rfl rfl rfl rfl bG (rd:=aI (-1)) (r:=.int .i64 (-1)) (λ_ _=>.int _ _) e ?_;simp[gT];refine⟨rfl,?_⟩;refine Fm.ret ?_;exact⟨trivial,rfl,bA⟩
theorem use_none{x:Nd}(h:GO.findIdx? (λy=>decide (x.kind=y))=none):cA x=gM x.kids:=by rw[usesN_eq];unfold yP ZX;rw[h];rfl
theorem use_some{x:Nd}{j:Nat}(h:GO.findIdx? (λy=>decide (x.kind=y))=some j):cA x=⟨x.kind,wT.getD j 0,zV 46 x.text,zW 46 x.text⟩::gM x.kids:=by rw[usesN_eq];unfold yP ZX;rw[h];rfl
theorem fit_at{j:Nat}:(wT.map aI)[j]?.getD default=aI (wT.getD j 0)\/wT.length<=j:=by
 by_cases h:j<wT.length
 .left;simp[h,A5]
 .right;omega
theorem walk_step{F:Po prog}{y o:Value}{t:List dC}(C:UsesCtx F y o t)(x:Nd)(H:weighN x<=1000000000)(h:∀k∈x.kids,WalkOk F o t k):WalkOk F o t x:=by
 intro i n;have g:pE F (.fn 176 [.ro [fitD],.ro [.val y],.ro [.val o]]) [x.d] i (cA x).length (.bool true):=by
  have B:=weighN_eq x;refine kV (pins:=[4]) func176 jM (c:=_) rfl ntmps176 bA results176 bool_of jM ?_;repeat refine Fm.seq ?_
  refine jY hT hW (λ_=>none) ?_;simp[gT];refine vS (λw m=>(iO.freeze [4]).trans (pD [1,2,3,4] [(4,4)] bG bG (by simp[m,dL]) rfl rfl)) ?_;simp;cases e:GO.findIdx? (λy=>decide (x.kind=y))with
  |none=>
   rw[use_none e]at n|-;have q:=has_eff h i n;repeat refine Fm.seq ?_
   refine jY hT hW (λ_=>none) ?_;simp[gT,cZ,fitD,findD_int,e,bM];repeat refine Fm.seq ?_
   refine jY hT hW (λ_=>none) ?_;simp[gT];repeat refine Fm.seq ?_
   refine Fm.cond (b:=false) bA (λh=>by cases h) λ_=>?_;refine Fm.skip ?_;simp[gT];repeat refine Fm.seq ?_
   refine vS (λw m=>pD [3,4] [(4,4)] bG bG (by simp[m,dL]) rfl rfl) ?_;simp;refine mX hT hW [(4,.box true [.d (aI x.kind),.d (.str x.text),.d (aI x.n),.d (.sl (x.kids.map Nd.d))])] rfl (by rfl) bA 3 rfl rfl rfl rfl bG (rd:=.bool false) (r:=.bool false) (λ_ _=>.bool _) q ?_;simp[gT];refine⟨rfl,?_⟩;refine Fm.ret ?_;exact⟨trivial,by simp[C2],bA⟩
  |some j=>
   have G:j<10:=by
    have:=(A9.1 e).1;exact this
   have d:(wT.map aI)[j]?.getD default=aI (wT.getD j 0):=fit_at.resolve_right (by show¬10<=j;omega);simp at d;obtain⟨f,p⟩:∃f,wT.getD j 0=f:=⟨_,rfl⟩;rw[use_some e,p]at n;rw[use_some e,p];simp[A5]at p;rw[p]at d;have z:=n 0 _ rfl;have D:=C.yield i _ z;have q:=has_eff h (i+1) (ends_at (a:=[_]) n).2;have l:=UD x.text 46 aD;repeat refine Fm.seq ?_
   refine jY hT hW (λ_=>none) ?_;simp[gT,cZ,fitD,findD_int,e,bM,d];repeat refine Fm.seq ?_
   refine jY hT hW (λ_=>none) ?_;simp[gT];repeat refine Fm.seq ?_
   refine Fm.cond (b:=true) bA (λ_=>?_) λh=>by cases h
   repeat refine Fm.seq ?_
   refine jY hT hW (og 22 (.plain ⟨.tup [.d (.str (zV 46 x.text)),.d (.str (zW 46 x.text)),.d (.bool (AL 46 x.text))],true⟩)) ?_;simp[gT,bM];refine⟨l,?_⟩;repeat refine Fm.seq ?_
   refine mX hT hW [(4,.box true [.d (aI x.kind),.d (.str x.text),.d (aI x.n),.d (.sl (x.kids.map Nd.d))])] rfl (by rfl) bA 7 rfl rfl rfl rfl bG (rd:=.bool true) (r:=.bool true) (λ_ _=>.bool _) D ?_;simp[gT,dC.d];refine⟨rfl,?_⟩;repeat refine Fm.seq ?_
   refine Fm.cond (b:=false) bA (λh=>by cases h) λ_=>?_;refine Fm.skip ?_;simp[gT];repeat refine Fm.seq ?_
   refine vS (λw m=>pD [3,4] [(4,4)] bG bG (by simp[m,dL]) rfl rfl) ?_;simp;refine mX hT hW [(4,.box true [.d (aI x.kind),.d (.str x.text),.d (aI x.n),.d (.sl (x.kids.map Nd.d))])] rfl (by rfl) bA 3 rfl rfl rfl rfl bG (rd:=.bool false) (r:=.bool false) (λ_ _=>.bool _) q ?_;simp[gT];refine⟨rfl,?_⟩;refine Fm.ret ?_;exact⟨trivial,by simp[C2,F7 1],bA⟩
 intro K W v E u A s;cases A with
 |val _ _=>exact g K W o E u (C.walk K i W u) s
end
section
open Go.Proofs Go.RowKit
attribute[local simp] aR bK bE aO aL aZ aP
attribute[local simp] kJ.cond Nd.d_eq nd_t nd_dr nd_td ndsD aU bL
theorem walk_all{F:Po prog}{y d:Value}{b:List dC}(C:UsesCtx F y d b)(x:Nd):weighN x<=1000000000->WalkOk F d b x:=
 iU (p:=λx=>weighN x<=1000000000->WalkOk F d b x) (λk t n a g f=>walk_step C (.mk k t n a) f λc e=>g c e (by
  have h:weighN c<=weighL a:=weigh_mem e;have i:weighN (.mk k t n a)=weighL a+t.length+1:=weighN_eq _;omega)) x
def itemU(u:dC):Xx where
 ds:=[aI u.bk,u.d]
 vs:=[.int .i64 u.bk,.agg #[.int .i64 u.kind,.string ⟨u.name.toArray⟩,.string ⟨u.field.toArray⟩]]
 rd:=λw E=>.cons (.int _ _) (.cons (.agg [aI u.kind,.str u.name,.str u.field] [.int .i64 u.kind,.string ⟨u.name.toArray⟩,.string ⟨u.field.toArray⟩] rfl (by simp[Value.oneCell']) (by
  intro i c v hc hv
  match i,hc,hv with
  |0,hc,hv=>cases hc;cases hv;exact .int _ _
  |1,hc,hv=>cases hc;cases hv;exact .str _
  |2,hc,hv=>cases hc;cases hv;exact .str _)) .nil)
theorem itemU_vs{w:World}{E:Nat->Prop}{u:dC}{c:List Value}(h:Lq w E [aI u.bk,u.d] c):c=(itemU u).vs:=by
 match c,h.1 with
 |[a,b],_=>
  have g:=h.2 0 _ _ rfl rfl;have i:=h.2 1 _ _ rfl rfl;cases g;cases i with
  |agg _ us hl _ hc=>
   match us,hl with
   |[p,q,r],_=>
    have d:=hc 0 _ _ rfl rfl;have e:=hc 1 _ _ rfl rfl;have f:=hc 2 _ _ rfl rfl;cases d;cases e;cases f;rfl
theorem lwp_step{P:Program}{N:Nat}{c:dE}{X:Nat->Prop}{b:eG}{H:dP}{β:Nat->Option Nat}{a:Act}{w:World}{x:Code}{K:Exit->Act->World->Prop}(g:eG)(i:dP)(s:mG N c X b H β a w)(q:c.flat=true)(p:mV x=true)
 (h:fF P N c X x (Jo c g i) b H)(k:∀m d f,mG N c X g i m d f->K .normal d f):x.wpIn (RF none) 0 P K a w:=by
 refine wpIn_mono (h none (.inr ⟨p,q⟩) β a w s) ?_;rintro e d f ⟨r,j,y,m,n,t,l,o⟩;cases r with
 |exit id=>exact l.elim
 |ret=>exact l.elim
 |normal=>
  cases e<;>simp only[gR]at n;obtain⟨v,u⟩:=o _ _ _ _ _ t;exact k v d f u
theorem box_one{w:World}{E:Nat->Prop}{β:Nat->Option Nat}{H:dP}{id:Nat}{fz:Bool}{l:LV}(h:dS w E β H id)(i:H id=.box fz [l]):∃b e u,β id=some b/\w.heap[b]? =some (.cells #[u] e (0,0))/\u.oneCell'=true/\Eng.R w E β H l u:=by
 unfold dS at h;rw[i]at h;obtain⟨b,e,j,a,c,d,f,g⟩:=h
 match j,d with
 |[u],_=>exact⟨b,e,u,a,c,f u bA,g 0 _ _ rfl rfl⟩
theorem box_ptr{w:World}{E:Nat->Prop}{β:Nat->Option Nat}{H:dP}{id b a:Nat}{v:Value}(h:Eng.R w E β H (.bx id a) v)(d:β id=some b)(c:(H id).live=true):v=.pointer (some ⟨b,a,none⟩):=by
 cases h with
 |bx _ _ b' _ _ _ hb'=>rw[d]at hb';cases hb';rfl
 |bxdead _ _ _ hH _=>rw[hH]at c;cases c
theorem uses_iter(x:Nd)(hw:weighN x<=1000000000):Ud prog 174 [.ro [aI x.kind,.str x.text,aI x.n,ndsD x.kids]] ((cA x).map itemU):=by
 refine⟨⟨_,func174,jM,rfl⟩,?_⟩;intro w X lb l J hX a9 c7 c8 c9;obtain⟨y,a0⟩:∃y,y=Value.func (.yield l) #[] #[]:=⟨_,rfl⟩;rw[<-a0];refine(callsIn_wide (n:=0)).1 (callsIn_of_wp func174 rfl trivial ?_ rfl);have s0:mG 10 ⟨w,λ_=>none,λ_=>.absent,[],true⟩ X (iD [.val y,.ro [aI x.kind,.str x.text,aI x.n,ndsD x.kids]]) (aK []) (λ_=>none) ⟨(#[y]++lb.toArray)++F3 (Tryz.f174.ntmps-(#[y]++lb.toArray).size) undef,[]⟩ w:=by
  match lb,a9.1 with
  |[p],_=>
  refine⟨FA.nil,?_,⟨rfl,rfl,rfl,A0 _,λ_ _ _=>rfl,A0 _⟩,⟨λk f=>⟨hX.1 k f,λ⟨id,h,_⟩=>by cases h⟩,hX.2.anti λk f=>f.resolve_right λ⟨id,h,_⟩=>by cases h⟩,λid b hl _=>by simp[aK,fN,bJ.live]at hl,λi j b hi _=>by simp[aK,fN,bJ.live]at hi,λt=>?_,λid=>?_,λid h=>by cases h⟩
  .simp[ntmps174]
  .rw[qW]
   match t with
   |0=>exact .d _ _ (by simp;exact .val y (by rw[a0];rfl))
   |1=>exact .d _ _ (by
     simp;exact(a9.2 0 _ _ rfl rfl).anti λk f=>f.resolve_right λ⟨id,B,_⟩=>by simp[aK,fN,bJ.mut]at B)
   |t+2=>exact .junk _
  .simp[dS,aK,fN]
 generalize hA:(⟨(#[y]++lb.toArray)++F3 (Tryz.f174.ntmps-(#[y]++lb.toArray).size) undef,[]⟩:Act)=act at s0|-;clear hA;have kf:=fitting_ok;obtain⟨rd,b7⟩:∃rd:DV,rd=.ro [aI x.kind,.str x.text,aI x.n,ndsD x.kids]:=⟨_,rfl⟩;repeat refine wpIn_seq ?_
 refine lwp_step (bB [(1,.d rd),(2,.bx 2 0)]) (aK [(2,.box false [.d (.val y)])]) s0 rfl jM ?_ λβ1 a1 w1 s1=>?_
 .apply aJ;simp[b7];exact pD [1,2] [(2,2)] bG bG bA bA (by simp;rfl)
 show Code.wpIn _ _ _ _ _ _ _;repeat refine wpIn_seq ?_
 refine lwp_step (bB [(1,.d rd),(2,.bx 2 0),(3,.bx 3 0)]) (aK [(2,.box false [.d (.val y)]),(3,.box false [.d fitD])]) s1 rfl jM ?_ λβ2 a2 w2 s2=>?_
 .refine bH (og 5 (.plain ⟨.d fitD,false⟩)) ?_;simp;refine⟨⟨kf,rfl⟩,?_⟩;exact pD [1,2,3] [(2,2),(3,3)] bG bG bA bA (by simp;rfl)
 show Code.wpIn _ _ _ _ _ _ _;repeat refine wpIn_seq ?_
 refine lwp_step (bB [(1,.d rd),(2,.bx 2 0),(3,.bx 3 0),(4,.bx 4 0)]) (aK [(2,.box false [.d (.val y)]),(3,.box false [.d fitD]),(4,.box false [.d (.val Value.nilFunc)])]) s2 rfl jM ?_ λβ3 a3 w3 s3=>?_
 .apply aJ;simp;exact pD [1,2,3,4] [(2,2),(3,3),(4,4)] bG bG bA bA bA
 show Code.wpIn _ _ _ _ _ _ _;repeat refine wpIn_seq ?_
 refine lwp_step (bB [(1,.d rd),(2,.bx 2 0),(3,.bx 3 0),(4,.bx 4 0)]) (aK [(2,.box true [.d (.val y)]),(3,.box true [.d fitD]),(4,.box true [.fn 176 [.bx 3 0,.bx 2 0,.bx 4 0]])]) s3 rfl jM ?_ λβ4 a4 m G=>?_
 .apply aJ;simp;refine(iO.freeze [2,3,4]).trans (pD [1,2,3,4] [(2,2),(3,3),(4,4)] bG bG bA ?_ ?_)<;>simp
 show Code.wpIn _ _ _ _ _ _ _;have o:Ah w.heap.size w m:=G.ext.bel λk ⟨id,h,_⟩=>by cases h
 obtain⟨b2,e2,z,L,c4,b0,d1⟩:=box_one (G.obj 2) (fz:=true) (l:=.d (.val y)) rfl;obtain⟨b3,e3,u3,M,c5,d0,d2⟩:=box_one (G.obj 3) (fz:=true) (l:=.d fitD) rfl;obtain⟨b4,e4,s,N,c6,U,d3⟩:=box_one (G.obj 4) (fz:=true) (l:=.fn 176 [.bx 3 0,.bx 2 0,.bx 4 0]) rfl;have d4:z=y:=by cases d1 with|d _ _ h=>cases h;rfl
 subst d4;have a5:∀id b,(aK [(2,bJ.box true [.d (.val z)]),(3,.box true [.d fitD]),(4,.box true [.fn 176 [.bx 3 0,.bx 2 0,.bx 4 0]])] id).live=true->β4 id=some b->w.heap.size<=b/\b<m.heap.size:=λid b B D=>by
  have I:=G.fresh id b B D;refine⟨I.1.resolve_right λh=>?_,I.2⟩;obtain⟨⟨i0,h0,_⟩,_⟩:=h;cases h0
 have n2:=a5 2 b2 rfl L;have n3:=a5 3 b3 rfl M;have n4:=a5 4 b4 rfl N;have d5:∀id,(aK [(2,bJ.box true [.d (.val z)]),(3,.box true [.d fitD]),(4,.box true [.fn 176 [.bx 3 0,.bx 2 0,.bx 4 0]])] id).mut=false:=Bs rfl;obtain⟨p3,p2,p4,b9,b5,b1,b6⟩:∃p3 p2 p4,s=.func (.func 176) #[] #[p3,p2,p4]/\p3=.pointer (some ⟨b3,0,none⟩)/\p2=.pointer (some ⟨b2,0,none⟩)/\p4=.pointer (some ⟨b4,0,none⟩):=by
  cases d3 with
  |fn _ _ vs hl g=>
   match vs,hl with
   |[q3,q2,q4],_=>exact⟨q3,q2,q4,rfl,box_ptr (g 0 _ _ rfl rfl) M rfl,box_ptr (g 1 _ _ rfl rfl) L rfl,box_ptr (g 2 _ _ rfl rfl) N rfl⟩
 have a8:RD m X fitD u3:=by
  cases d2 with
  |d _ _ h=>exact h.anti λk f=>.inl f
 have c3:zI m X:=hX.2.step (λk f _=>o.block k f) o.size λ_ _ h=>h
 let F:Po prog:={
  T:=λK i W=>J K i W/\(∀k,w.heap.size<=k->k<m.heap.size->K k)/\m.heap.size<=W.heap.size/\(∀k,k<m.heap.size->¬X k->W.heap[k]? =m.heap[k]?)/\∀k,K k->k<W.heap.size
  S:=λk=>k<m.heap.size/\¬X k
  grow:=λK i W W' ⟨B,D,I,h4,h5⟩ o=>⟨c8 K i W W' B o,λk a b=>.inl (D k a b),F0 I o.size,λk a b=>(o.block k aD).trans (h4 k a b),λk f=>by
   have:=o.size;rcases f with f|f
   .have:=h5 k f;omega
   .exact f.2⟩
  low:=λK i W k h f=>h.2.2.2.2 k f
  same:=λK i W K' i' W' k h h' hs=>(h'.2.2.2.1 k hs.1 hs.2).trans (h.2.2.2.1 k hs.1 hs.2).symm
  glob:=λK i W h=>c3.step (λk f hn=>h.2.2.2.1 k f hn) h.2.2.1 λk f P=>C0 λhx=>P.2 (.inr ⟨f,hx⟩)}
 have b8:F.T (λk=>w.heap.size<=k/\k<m.heap.size) 0 m:=⟨c7 m o,λk a b=>⟨a,b⟩,A0 _,λ_ _ _=>rfl,λk f=>f.2⟩;have a7:∀k,X k->k<w.heap.size:=hX.1;have C:UsesCtx F z s (cA x):=by
  refine⟨λi u hu K W v vs A q Z=>?_,λK i W A=>?_⟩
  .have q:v=z:=by cases q;rfl
   refine .inr ⟨l,q.trans a0,?_⟩;have Z:=itemU_vs Z;subst Z;obtain⟨fn,tm,ag,bo,r1,r2⟩:=c9 K i W (itemU u) A.1 (by rw[List.getElem?_map,hu];rfl);refine⟨fn,tm,ag,bo,r1,r2.mono ?_⟩;rintro e W' ⟨rfl,q1,q2,q3⟩;have Y:=A.2.2.1;refine⟨rfl,K,⟨q1,A.2.1,F0 Y q2,λk a b=>?_,λk f=>E5 (A.2.2.2.2 k f) q2⟩,q2,λk f=>⟨f,q3 k (.inl f)⟩⟩;refine(q3 k ?_).trans (A.2.2.2.1 k a b);by_cases h:k<w.heap.size
   .exact .inr ⟨h,b⟩
   .exact .inl (A.2.1 k aD a)
  .have Y:=A.2.2.1;have c2:∀b,w.heap.size<=b->b<m.heap.size->¬F.X K W b/\b<W.heap.size/\W.heap[b]? =m.heap[b]? :=λb B D=>
    ⟨λh=>h.2.elim (.inl (A.2.1 b B D)),aD,A.2.2.2.1 b D λhx=>by have:=a7 b hx;omega⟩
   have H:∀b u (d:DV) (e:TypeId),w.heap.size<=b/\b<m.heap.size->m.heap[b]? =some (.cells #[u] e (0,0))->u.oneCell'=true->RD W (F.X K W) d u->RD W (F.X K W) (.ro [d]) (.pointer (some ⟨b,0,none⟩)):=λb u d e hb hh B hd=>by
    obtain⟨z1,z2,z3⟩:=c2 b hb.1 hb.2;refine .ro [d] b 0 [u] z1 rfl (by simpa using B) z2 (λj v hj=>?_) λi c v g q=>?_
    .match j,hj with
     |0,hj=>cases hj;simp[World.cell?,z3,hh]
    .match i,g,q with
     |0,g,q=>cases g;cases q;exact hd
   have c0:RD W (F.X K W) (.fn 176 [.ro [fitD],.ro [.val z],.ro [.val s]]) (.func (.func 176) #[] [p3,p2,p4].toArray):=by
    refine .fn _ _ [p3,p2,p4] rfl λi c v g q=>?_
    match i,g,q with
    |0,g,q=>
     cases g;cases q;rw[b5];exact H b3 u3 fitD e3 n3 c5 d0 (a8.step (λk f hn=>A.2.2.2.1 k f hn) Y λk f P=>C0 λhx=>P.2 (.inr ⟨f,hx⟩))
    |1,g,q=>
     cases g;cases q;rw[b1];exact H b2 z _ e2 n2 c4 b0 (.val _ b0)
    |2,g,q=>
     cases g;cases q;rw[b6];exact H b4 s (.val s) e4 n4 c6 U (.val _ U)
   have e:(Value.func (.func 176) #[] [p3,p2,p4].toArray)=s:=b9.symm;rw[e]at c0;exact c0
 have V:=walk_all C x hw 0 (λj u hj=>by rw[F8];exact hj);obtain⟨m6,g6⟩:=G.mem.rebox (b:=4) (fz:=true) (cs:=[.fn 176 [.bx 3 0,.bx 2 0,.bx 4 0]]) (cs':=[.d (.val s)]) rfl rfl λi c c' v g O hr=>by
  match i,g,O with
  |0,g,O=>
   cases g;cases O;have:v=s:=by
    rw[b9];cases hr with
    |fn _ _ vs hl g=>
     match vs,hl with
     |[q3,q2,q4],_=>rw[b5,b1,b6,box_ptr (g 0 _ _ rfl rfl) M rfl,box_ptr (g 1 _ _ rfl rfl) L rfl,box_ptr (g 2 _ _ rfl rfl) N rfl]
   rw[this];exact .d _ _ (.val s U)
 have hO:cQ (aK [(2,bJ.box true [.d (.val z)]),(3,.box true [.d fitD]),(4,.box true [.fn 176 [.bx 3 0,.bx 2 0,.bx 4 0]])]) 4 (.box true [.d (.val s)])=aK [(2,bJ.box true [.d (.val z)]),(3,.box true [.d fitD]),(4,.box true [.d (.val s)])]:=by
  funext j;by_cases D:j=2
  .subst D;rfl
  .by_cases I:j=3
   .subst I;rfl
   .by_cases h4:j=4
    .subst h4;rfl
    .simp[cQ,aK,fN,D,I,h4]
 rw[hO]at m6 g6;have c1:mG 10 ⟨w,λ_=>none,λ_=>.absent,[],true⟩ X (bB [(1,.d rd),(2,.bx 2 0),(3,.bx 3 0),(4,.bx 4 0)]) (aK [(2,bJ.box true [.d (.val z)]),(3,.box true [.d fitD]),(4,.box true [.d (.val s)])]) β4 a4 m:=
  ⟨g6.marks G.defers,G.size,m6.ext,m6.xold,m6.fresh,m6.inj,λt=>g6.R (G.env t),m6.obj,m6.pin⟩
 have E:∀id,(aK [(2,bJ.box true [.d (.val z)]),(3,.box true [.d fitD]),(4,.box true [.d (.val s)])] id).mut=false:=Bs rfl;have s5:=c1.effect (X':=F.X (λk=>w.heap.size<=k/\k<m.heap.size) m) [2,3,4] (λid h=>by
  have:=oC id h;simpa using this) (c1.nodefer rfl) (A0 _) (λ_ _ _=>rfl) (λk f P=>C0 λhx=>P.2 (.inr ⟨f,hx⟩)) (λk P=>P.1) (F.glob _ _ _ b8)
 refine wpIn_mono ((mX (F:=F) (pins:=[2,3,4]) (Q:=λe _ _ i'=>(match e with| .normal=>True|_=>False)/\i'=0+(cA x).length) hT hW [(2,.box true [.d (.val z)]),(3,.box true [.d fitD]),(4,.box true [.d (.val s)])] rfl (by rfl) bA 2 rfl rfl rfl rfl bG
  (rd:=.bool true) (r:=.bool true) (λ_ _=>.bool _) V ?_) jM ⟨m,β4,_,[2,3,4],true⟩ _ β4 a4 m rfl rfl (λk ⟨id,_,h,_⟩=>by rw[E id]at h;cases h) b8 s5) ?_
 .simp[b7,zP];rfl
 .rintro e a' w' ⟨lx,d7,H',i',w1,K',β',q1,q2,q3,q4,q5,q6,q7,q8,q9,d6⟩;subst d6;cases lx with
  |exit id=>exact q9.elim
  |ret=>exact q9.elim
  |normal=>
  cases e<;>simp only[gR]at q1;have a6:=q8.ext.bel q4;have hg:=F.grow K' _ _ _ q5 a6;exact⟨q8.nodefer q2,.tuple #[],by simp[results,results174],⟨_,rfl⟩,_,by rw[A6];have:=hg.1;rw[F8]at this;exact this⟩
end
section
attribute[local simp] aR bK bE aO aL aZ aP
attribute[local simp] kJ.cond Nd.d_eq nd_t nd_dr nd_td ndsD aU
def fieldsL(l:List Nd):List aV:=(l.filter λk=>decide (k.kind=7)).map Nd.text
def fieldsN(x:Nd):List aV:=fieldsL x.kids
theorem fieldsL_succ{l:List Nd}{i:Nat}(a:i<l.length):fieldsL (l.take (i+1))=if l[i].kind=7 then fieldsL (l.take i)++[l[i].text]else fieldsL (l.take i):=by
 unfold fieldsL;rw[A4 a,List.filter_append];by_cases h:l[i].kind=7<;>simp[h]
theorem fieldsL_len(l:List Nd):(fieldsL l).length<=l.length:=by unfold fieldsL;rw[A6];exact B5 _ _
theorem fields_ok(x:Nd)(o:weighN x<=1000000000):Ok prog 245 [x.d] ⟨.own 1 ((fieldsN x).map .str),true⟩:=by
 refine bU func245 rfl ntmps245 results245 λp X d=>?_;have n:=weighN_eq x;have m:=weigh_len (l:=x.kids);apply aE;simp;apply aE;simp;apply eT;simp;apply aY;refine bC (ι:=Nat) (λi=>bB [(3,.ow 3 0 (fieldsL (x.kids.take i)).length),(7,.d (ndsD x.kids)),(8,.d (aI (x.kids.length:Nat))),(9,.d (aI (i:Nat)))]) (λi=>aK [(3,.row false 1 ((fieldsL (x.kids.take i)).map .str))]) (λi=>i<=x.kids.length) (λi=>x.kids.length-i) 0 (aA d [3,7,8,9] [(3,3)] (by simp[fieldsL]) (by simp[fieldsL])) (A7 _) λi j=>?_;apply aE;simp;apply aF;apply aM;simp;refine⟨λg=>?_,λg=>?_⟩
 .apply aG;simp;apply eE;apply aF;have e:i<x.kids.length:=aD;obtain⟨k,f⟩:∃k,x.kids[i]=k:=⟨_,rfl⟩;have a:=fieldsL_succ e;have c:=fieldsL_len (x.kids.take i);rw[B7]at c;rw[f]at a;apply aJ;simp[e,f];apply bF;simp;refine⟨λb=>?_,λb=>?_⟩
  .simp only[if_pos b]at a;apply aJ;simp;refine⟨aD,?_⟩;apply aJ;simp;refine⟨aD,?_⟩;refine Oe.mk (i+1) (aA d [3,7,8,9] [(20,3)] (by simp[a]) (by simp[a])) ?_ ?_
   .omega
   .omega
  .simp only[if_neg b]at a;apply aG;simp;apply aJ;simp;refine⟨aD,?_⟩;refine Oe.mk (i+1) (aA d [3,7,8,9] [(3,3)] (by simp[a]) (by simp[a])) ?_ ?_
   .omega
   .omega
 .apply bQ;simp;apply aE;simp;apply aH;have h:i=x.kids.length:=aD;subst h;rw[C5];simp[fieldsN]
def pgKs(ts:List Nd):List DV:=ts.map λt=>.str t.text
def pgVs(n:Nat):List DV:=(E7 n).map λ(i:Nat)=>aI (i:Int)
def pgD(ts:List Nd):DV:=.agg [ndsD ts,.mp (pgKs ts) (pgVs ts.length)]
def atN(ts:List Nd)(name:aV):Option Nat:=ts.findIdx? λt=>decide (name=t.text)
theorem findD_pg(a:aV):∀(b:List Nd) (i:Nat),iM (.str a) (pgKs b) i=some ((atN b a).map (·+i))
 |[],i=>rfl
 |x::r,i=>by
  have e:kL (.str a) (.str x.text)=some (decide (a=x.text)):=by
   simp only[kL,FB,Option.some.injEq];by_cases h:a=x.text<;>simp[h]
  unfold pgKs atN;rw[E4,iM,e,D0];by_cases h:a=x.text
  .simp[h]
  .simp only[h,decide_false,D1,if_false];have:=findD_pg a r (i+1);unfold pgKs atN at this;rw[this];cases r.findIdx? (λt=>decide (a=t.text))with
   |none=>rfl
   |some j=>simp;omega
theorem atN_lt{b:List Nd}{a:aV}{j:Nat}(h:atN b a=some j):j<b.length:=by
 unfold atN at h;exact(A9.1 h).1
theorem pgVs_at{n j:Nat}(h:j<n):(pgVs n)[j]?.getD default=aI (j:Nat):=by simp[pgVs,h]
def errU(ts:List Nd)(u:dC):Int:=match atN ts u.name with
 |none=>6
 |some j=>if(ts.getD j default).kind≠u.kind then 12 else if u.kind=1/\u.field∉fieldsN (ts.getD j default)then -1 else 0
def rankI(e:Int):Int:=if e=12 then 1 else if e= -1 then 2 else 0
def worseI(out e:Int):Int:=if out=0\/rankI e<rankI out then e else out
def misF(ts:List Nd)(us:List dC):Int:=us.foldl (λout u=>if errU ts u=0 then out else worseI out (errU ts u)) 0
def misN(ts:List Nd)(x:Nd):Int:=if misF ts (cA x)= -1 then 6 else misF ts (cA x)
def Four(e:Int):Prop:=e=0\/e=6\/e=12\/e= -1
theorem errU_four(a:List Nd)(u:dC):Four (errU a u):=by
 unfold errU Four;split
 .simp
 .split
  .simp
  .split<;>simp
theorem misF_four(ts:List Nd)(a:List dC):Four (misF ts a):=by
 have c:∀(a:List dC) (o:Int),Four o->Four (a.foldl (λb u=>if errU ts u=0 then b else worseI b (errU ts u)) o):=λa=>by
  induction a with
  |nil=>exact λo h=>h
  |cons u r ih=>
   intro o h;refine ih _ ?_;show Four (if errU ts u=0 then o else worseI o (errU ts u));split
   .exact h
   .unfold worseI;split
    .exact errU_four ts u
    .exact h
 exact c a 0 (.inl rfl)
def rankD:DV:=.mp [aI 6,aI 12,aI (-1)] [aI 0,aI 1,aI 2]
theorem look_rank{H:Nat->bJ}{e:Int}(h:Four e):cZ T H 270 (.d rankD) (.d (aI e)) false=⟨.d (aI (rankI e)),True,[]⟩:=by
 rcases h with rfl|rfl|rfl|rfl<;>simp[cZ,rankD,iM,kL,FB,rankI]
theorem worse_ok(a e:Int)(g:Four a)(f:Four e):mH prog 248 [.d (aI e),.d rankD,.bx 0 0] [(0,.box false [.d (aI a)])] [(0,.box false [.d (aI (worseI a e))])] (.tup []):=by
 refine oX func248 rfl ntmps248 results248 λi X d=>?_;apply aE;simp[look_rank g,look_rank f];apply aM;simp;refine⟨λc=>?_,λc h=>?_⟩
 .have b:worseI a e=e:=by unfold worseI;rw[if_pos c]
  apply aJ;simp;simp[b];exact aA d [] [(0,0)]
 .have b:worseI a e=a:=by unfold worseI;rw[if_neg aD]
  apply aG;simp;simp[b];exact aA d [] [(0,0)]
def atI(ts:List Nd)(name:aV):Int:=((atN ts name).getD 0:Nat)
theorem look_at{H:Nat->bJ}{b:List Nd}{n:Nat}(c:n=b.length){a:aV}:cZ T H 136 (.d (.mp (pgKs b) (pgVs n))) (.d (.str a)) true=⟨.tup [.d (aI (atI b a)),.d (.bool (atN b a).isSome)],True,[]⟩:=by
 subst c;unfold atI;cases h:atN b a with
 |none=>simp[cZ,findD_pg,h]
 |some j=>
  have:=pgVs_at (atN_lt h);simp[cZ,findD_pg,h,this]
def usAt(x:Nd)(i:Nat):dC:=(cA x).getD i ⟨0,0,[],[]⟩
theorem usAt_eq{x:Nd}{i:Nat}{u:dC}(h:(cA x)[i]? =some u):usAt x i=u:=by unfold usAt;rw[A5,h];rfl
end
section
attribute[local simp] aR bK bE aO aL aZ aP
attribute[local simp] kJ.cond Nd.d_eq nd_t nd_dr nd_td ndsD aU bL vR itemU dC.d
theorem misF_succ{ts:List Nd}{a:List dC}{i:Nat}{u:dC}(h:a[i]? =some u):misF ts (a.take (i+1))=if errU ts u=0 then misF ts (a.take i)else worseI (misF ts (a.take i)) (errU ts u):=by
 obtain⟨c,b⟩:=B9.1 h;unfold misF;rw[A4 c,F1,b];rfl
theorem misused_ok(a:List Nd)(x:Nd)(J:weighN x<=1000000000)(B:∀t∈a,weighN t<=1000000000):Ok prog 171 [pgD a,x.d] ⟨.d (aI (misN a x)),true⟩:=by
 refine bU func171 rfl ntmps171 results171 λN X f=>?_;have F:=uses_ok x;simp at F;apply aE;simp[pgD];apply aE;simp;apply aE;simp;apply aE;simp[cM,iM,kL,FB];refine gS (cB 7 [13] (fz:=false) (cs:=[.mp 13]) (ds:=[rankD]) bA bA (by simp[rankD]) (by simp[bJ.mut])) ?_;apply aF;refine dF (og 16 (.plain ⟨.d (.fn 174 [.ro [aI x.kind,.str x.text,aI x.n,.sl (x.kids.map Nd.d)]]),false⟩)) ?_;simp;refine⟨F,?_⟩;apply aY;refine gS (aA f [2,5,6,7,16] [(2,2),(5,5),(6,6),(7,7)] (env':=bB [(2,.bx 2 0),(5,.bx 5 0),(6,.bx 6 0),(7,.bx 7 0),(16,.d (.fn 174 [.ro [aI x.kind,.str x.text,aI x.n,.sl (x.kids.map Nd.d)]]))]) (H':=aK [(2,.box false [.d (ndsD a),.d (.mp (pgKs a) (pgVs a.length))]),(5,.box false [.d (aI 0)]),(6,.box false [.fn 248 [.bx 5 0]]),(7,.box false [.d rankD])]) bA bA) ?_;refine fF.rangeFunc (items:=(cA x).map itemU) (by simpa using uses_iter x J) bA (by intro D d;obtain⟨u,_,rfl⟩:=C8.1 d;rfl) bA jM jM (λi=>aK [(2,.box false [.d (ndsD a),.d (.mp (pgKs a) (pgVs a.length))]),(5,.box false [.d (aI (misF a ((cA x).take i)))]),(6,.box false [.fn 248 [.bx 5 0]]),(7,.box false [.d rankD])]) (λi=>aK [(2,.box false [.d (ndsD a),.d (.mp (pgKs a) (pgVs a.length))]),(5,.box false [.d (aI (misF a ((cA x).take (i+1))))]),(6,.box false [.fn 248 [.bx 5 0]]),(7,.box false [.d rankD]),(9,.box false [.d (aI (usAt x i).kind),.d (.str (usAt x i).name),.d (.str (usAt x i).field)])]) (rfl) [2,5,6,7] bG (by simp[f]) (λi id h=>by simpa using oC id h) (λi=>bB [(2,.bx 2 0),(5,.bx 5 0),(6,.bx 6 0),(7,.bx 7 0),(9,.bx 9 0)]) (λi=>aK [(2,.box false [.d (ndsD a),.d (.mp (pgKs a) (pgVs a.length))]),(5,.box false [.d (aI (misF a ((cA x).take i)))]),(6,.box false [.fn 248 [.bx 5 0]]),(7,.box false [.d rankD]),(9,.box false [.d (aI (usAt x i).kind),.d (.str (usAt x i).name),.d (.str (usAt x i).field)])]) [2,5,6,7,9] (λi id h=>by simpa using oC id h) (λi M=>?_) (λL G i D f d=>?_) (λL G i D f d=>?_) ?_
 .simp
 .obtain⟨u,w,rfl⟩:=eJ d;have l:=usAt_eq w;apply aJ;simp;exact aA f [2,5,6,7,9] [(2,2),(5,5),(6,6),(7,7),(9,9)] (hH:=by simp[l])
 .obtain⟨u,w,rfl⟩:=eJ d;have l:=usAt_eq w;obtain⟨o,z⟩:∃o,misF a ((cA x).take i)=o:=⟨_,rfl⟩;have p:Four o:=by rw[<-z];exact misF_four _ _
  have e:=misF_succ (ts:=a) w;have I:=errU_four a u;rw[z]at e;simp[l,z];apply aY;apply aE;simp[look_at,bM];apply aY;apply bF;simp;refine⟨λH=>?_,λH=>?_⟩
  .have k:errU a u=6:=by unfold errU;cases h:atN a u.name<;>simp_all
   have s:=worse_ok o 6 p (by simp[Four]);rw[k,if_neg bG]at e;refine bH (og 32 (.gen ⟨[(5,0)],[],[],[(0,.box false [.d (aI (worseI o 6))])],.tup []⟩)) ?_;simp;refine⟨by simpa using s,?_⟩;exact aA f [] [(2,2),(5,5),(6,6),(7,7),(9,9)] (hH:=by simp[l,e])
  .obtain⟨j,q⟩:∃j,atN a u.name=some j:=by cases h:atN a u.name<;>simp_all
   have c:=atN_lt q;obtain⟨t,r⟩:∃t,a[j]=t:=⟨_,rfl⟩;have A:t∈a:=by rw[<-r];exact B8 c
   have g:atI a u.name=(j:Nat):=by unfold atI;rw[q];rfl
   have b:a.getD j default=t:=(by rw[A5,A3 c,r];rfl);apply aF;refine fF.rd [] [] (λ_=>none) ?_;simp[g,c,r];apply aM;simp;refine⟨λC=>?_,λC=>?_⟩
   .have k:errU a u=12:=by unfold errU;rw[q];simp only[b];rw[if_pos C]
    have s:=worse_ok o 12 p (by simp[Four]);rw[k,if_neg bG]at e;refine bH (og 45 (.gen ⟨[(5,0)],[],[],[(0,.box false [.d (aI (worseI o 12))])],.tup []⟩)) ?_;simp;refine⟨by simpa using s,?_⟩;exact aA f [] [(2,2),(5,5),(6,6),(7,7),(9,9)] (hH:=by simp[l,e])
   .have n:t.kind=u.kind:=aD;apply aF;by_cases v:u.kind=1
    rotate_left
    .refine fF.rd [[],[],[],[],[],[],[],[],[],[],[56],[56]] [[],[],[],[],[],[],[],[],[],[56],[],[],[59]] (λ_=>none) ?_;simp[g,c,r,v];have k:errU a u=0:=by unfold errU;rw[q];simp only[b];rw[if_neg (by simp[n]),if_neg (by simp[v])]
     rw[k,if_pos rfl]at e;apply aM;simp[g,c,r,v];apply aG;simp;exact aA f [] [(2,2),(5,5),(6,6),(7,7),(9,9)] (hH:=by simp[l,e])
    .have E:=fields_ok t (B t A);have K:=JA (fieldsN t) u.field;simp at E;refine fF.rd [[],[],[],[],[],[],[],[],[],[],[56],[56]] [[],[],[],[],[],[],[],[],[],[56],[],[],[59]] (λ|56=>some<| .plain ⟨.own 1 ((fieldsN t).map .str),true⟩|59=>some<| .plain ⟨.d (.bool (decide (u.field∈fieldsN t))),true⟩|_=>none) ?_;simp[g,c,r,v];refine⟨⟨E,by simpa using K⟩,?_⟩;apply aM;simp;refine⟨λy=>?_,λy=>?_⟩
     .have k:errU a u= -1:=by unfold errU;rw[q];simp only[b];rw[if_neg (by simp[n]),if_pos (by simp_all)]
      have s:=worse_ok o (-1) p (by simp[Four]);rw[k,if_neg bG]at e;refine bH (og 64 (.gen ⟨[(5,0)],[],[],[(0,.box false [.d (aI (worseI o (-1)))])],.tup []⟩)) ?_;simp;refine⟨by simpa using s,?_⟩;exact aA f [] [(2,2),(5,5),(6,6),(7,7),(9,9)] (hH:=by simp[l,e])
     .have k:errU a u=0:=by unfold errU;rw[q];simp only[b];rw[if_neg (by simp[n]),if_neg (by simp_all)]
      rw[k,if_pos rfl]at e;apply aG;simp;exact aA f [] [(2,2),(5,5),(6,6),(7,7),(9,9)] (hH:=by simp[l,e])
 .apply aF;apply bF;simp;refine⟨λm=>?_,λm=>?_⟩
  .apply aE;simp;apply aH;unfold misN;rw[if_pos m];simp
  .apply aG;simp;apply aE;simp;apply aH;unfold misN;rw[if_neg m];simp
def folS(ts:List Nd)(b:Int->Bool)(f:Nat->List Nat->List Nat)(M:List Nat)(u:dC):List Nat:=match atN ts u.name with
 |some k=>if b u.bk=true/\k∉M then f k (M++[k])else M
 |none=>M
def folF(ts:List Nd)(b:Int->Bool):Nat->Nat->List Nat->List Nat
 |0,_,M=>M
 |f+1,i,M=>(cA (ts.getD i default)).foldl (folS ts b (folF ts b f)) M
theorem folF_succ(a:List Nd)(b:Int->Bool)(f i:Nat)(M:List Nat):folF a b (f+1) i M=(cA (a.getD i default)).foldl (folS a b (folF a b f)) M:=rfl
def muN(n:Nat)(M:List Nat):Nat:=((E7 n).filter λk=>decide (k∉M)).length
theorem muN_le{n:Nat}{M a:List Nat}(h:∀k∈M,k∈a):muN n a<=muN n M:=by
 unfold muN;have:(E7 n).filter (λk=>decide (k∉a))=((E7 n).filter (λk=>decide (k∉M))).filter λk=>decide (k∉a):=by
  rw[E8];congr 1;funext k;by_cases b:k∈a
  .simp[b]
  .have:k∉M:=λc=>b (h k c);simp[b,this]
 rw[this];exact B5 _ _
theorem filterN_lt{α:Type}{p q:α->Bool}:∀{l:List α} {x:α},(∀y,q y=true->p y=true)->x∈l->p x=true->q x=false->(l.filter q).length<(l.filter p).length
 |a::l,x,hpq,d,hp,hq=>by
  have f:(l.filter q).length<=(l.filter p).length:=by
   have:l.filter q=(l.filter p).filter q:=by
    rw[E8];congr 1;funext y;cases h:q y with
    |true=>simp[hpq y h]
    |false=>simp
   rw[this];exact B5 _ _
  rcases B0.1 d with rfl|d
  .rw[B2 hp,B3 (by simp[hq])];simp only[D6];omega
  .have e:=filterN_lt hpq d hp hq;by_cases b:p a=true
   .by_cases c:q a=true
    .rw[B2 b,B2 c];simpa using e
    .rw[B2 b,B3 c];simp only[D6];omega
   .have c:¬q a=true:=λh=>b (hpq a h);rw[B3 b,B3 c];exact e
theorem muN_lt{n:Nat}{M:List Nat}{k:Nat}(b:k<n)(h:k∉M):muN n (M++[k])<muN n M:=by
 unfold muN;exact filterN_lt (x:=k) (λy a=>by simp at a|-;exact a.1) (List.mem_range.2 b) (by simpa using h) bA
theorem foldl_keeps{α:Type}{f:List Nat->α->List Nat}(h:∀M x k,k∈M->k∈f M x):∀(l:List α) (M:List Nat),∀k∈M,k∈l.foldl f M
 |[],_,_,hk=>hk
 |x::l,M,k,hk=>foldl_keeps h l (f M x) k (h M x k hk)
theorem folF_keeps(c:List Nd)(b:Int->Bool):∀(f i:Nat) (M:List Nat),∀k∈M,k∈folF c b f i M
 |0,_,_,_,a=>a
 |f+1,i,M,k,a=>by
  refine foldl_keeps (λM u k a=>?_) _ M k a;unfold folS;split
  .split
   .exact folF_keeps c b f _ _ k (E3 _ a)
   .exact a
  .exact a
theorem folS_keeps(c:List Nd)(b:Int->Bool)(f:Nat)(M:List Nat)(u:dC):∀k∈M,k∈folS c b (folF c b f) M u:=λk a=>by
 unfold folS;split
 .split
  .exact folF_keeps c b f _ _ k (E3 _ a)
  .exact a
 .exact a
def nkD(M:List Nat):List DV:=M.map λ(k:Nat)=>aI (k:Int)
def trD(M:List Nat):List DV:=M.map λ_=>.bool true
theorem findD_nat(k:Nat):∀(M:List Nat) (i:Nat),iM (aI (k:Int)) (nkD M) i=some ((M.findIdx? (λx=>decide (k=x))).map (·+i))
 |[],i=>rfl
 |x::r,i=>by
  have e:kL (aI (k:Int)) (aI (x:Int))=some (decide (k=x)):=by
   simp only[kL,FB,Option.some.injEq];by_cases h:k=x
   .simp[h]
   .have:¬((k:Int)=x):=aD;simp[h,this]
  unfold nkD;rw[E4,iM,e,D0];by_cases h:k=x
  .simp[h]
  .simp only[h,decide_false,D1,if_false];have:=findD_nat k r (i+1);unfold nkD at this;rw[this];cases r.findIdx? (λx=>decide (k=x))with
   |none=>rfl
   |some j=>simp;omega
theorem nfind_none{M:List Nat}{m:Nat}(h:m∉M):(M.findIdx? λx=>decide (m=x))=none:=by
 rw[D4];intro x a;simp;intro e;subst e;exact h a
theorem nfind_some{M:List Nat}{m:Nat}(h:m∈M):∃j,(M.findIdx? λx=>decide (m=x))=some j/\j<M.length:=by
 cases q:(M.findIdx? λx=>decide (m=x))with
 |none=>rw[D4]at q;have:=q m h;simp at this
 |some j=>exact⟨j,rfl,(A9.1 q).1⟩
theorem look_nat(M:List Nat){H:dP}{x:LV}{k:Nat}(h:rY H x=some (nkD M,trD M)):
 cZ T H 155 x (.d (aI (k:Int))) false=⟨.d (.bool (decide (k∈M))),True,[]⟩:=by
 unfold cZ;simp only[aAs,h,findD_nat];by_cases a:k∈M
 .obtain⟨j,b,c⟩:=nfind_some a;simp[b,c,a,rX,bV,gG,trD]
 .simp[nfind_none a,a,rX,bV,gG,lF,uT,TK.isNone,TK.agg]
theorem put_nat(M:List Nat){H:dP}{id:Nat}{k:Nat}(a:k∉M)(h:H id=.map false (nkD M) (trD M)):
 cM T H 155 (.mp id) (.d (aI (k:Int))) (.d (.bool true))=⟨.junk,True,[(id,.map false (nkD (M++[k])) (trD (M++[k])))]⟩:=by
 unfold cM;simp only[aAs,h,findD_nat,nfind_none a];simp[rX,bV,gG,nkD,trD]
def folH(ts:List Nd)(g:FuncId)(M:List Nat):List (Nat×bJ):=[(1,.box false [.d (ndsD ts),.d (.mp (pgKs ts) (pgVs ts.length))]),(2,.box false [.d (.fn g [])]),(3,.box false [.mp 100]),(4,.box false [.fn 182 [.bx 1 0,.bx 2 0,.bx 3 0,.bx 4 0]]),(100,.map false (nkD M) (trD M))]
theorem fol_step(a:List Nd)(b:Int->Bool)(g:FuncId)(f p:Nat)(M:List Nat)(F:∀t∈a,weighN t<=1000000000)(C:∀k,Ok prog g [aI k] ⟨.d (.bool (b k)),true⟩)(m:p<a.length)(U:muN a.length M<f+1)(Z:∀k z,k<a.length->muN a.length z<f->mH prog 182 [.d (aI (k:Int)),.bx 1 0,.bx 2 0,.bx 3 0,.bx 4 0] (folH a g z) (folH a g (folF a b f k z)) (.tup [])):mH prog 182 [.d (aI (p:Int)),.bx 1 0,.bx 2 0,.bx 3 0,.bx 4 0] (folH a g M) (folH a g (folF a b (f+1) p M)) (.tup []):=by
 unfold folH at*;refine oX func182 rfl ntmps182 results182 λw0 X e=>?_;obtain⟨x,G⟩:∃x,a[p]=x:=⟨_,rfl⟩;have I:x∈a:=by rw[<-G];exact B8 m
 have r:a.getD p default=x:=by rw[A5,A3 m,G];rfl
 have J:=F x I;have P:folF a b (f+1) p M=(cA x).foldl (folS a b (folF a b f)) M:=by rw[folF_succ,r]
 have N:=uses_ok x;simp at N;refine dF (og 15 (.plain ⟨.d (.fn 174 [.ro [aI x.kind,.str x.text,aI x.n,.sl (x.kids.map Nd.d)]]),false⟩)) ?_;simp[m,G];refine⟨N,?_⟩;apply aY;refine gS (aA e [1,2,3,4,15] [(1,1),(2,2),(3,3),(4,4),(100,100)] (env':=bB [(1,.bx 1 0),(2,.bx 2 0),(3,.bx 3 0),(4,.bx 4 0),(15,.d (.fn 174 [.ro [aI x.kind,.str x.text,aI x.n,.sl (x.kids.map Nd.d)]]))]) (H':=aK [(1,.box false [.d (ndsD a),.d (.mp (pgKs a) (pgVs a.length))]),(2,.box false [.d (.fn g [])]),(3,.box false [.mp 100]),(4,.box false [.fn 182 [.bx 1 0,.bx 2 0,.bx 3 0,.bx 4 0]]),(100,.map false (nkD M) (trD M))]) bA bA) ?_;refine fF.rangeFunc (items:=(cA x).map itemU) (by simpa using uses_iter x J) bA (by intro L c;obtain⟨u,_,rfl⟩:=C8.1 c;rfl) bA jM jM (λi=>aK [(1,.box false [.d (ndsD a),.d (.mp (pgKs a) (pgVs a.length))]),(2,.box false [.d (.fn g [])]),(3,.box false [.mp 100]),(4,.box false [.fn 182 [.bx 1 0,.bx 2 0,.bx 3 0,.bx 4 0]]),(100,.map false (nkD (((cA x).take i).foldl (folS a b (folF a b f)) M)) (trD (((cA x).take i).foldl (folS a b (folF a b f)) M)))]) (λi=>aK [(1,.box false [.d (ndsD a),.d (.mp (pgKs a) (pgVs a.length))]),(2,.box false [.d (.fn g [])]),(3,.box false [.mp 100]),(4,.box false [.fn 182 [.bx 1 0,.bx 2 0,.bx 3 0,.bx 4 0]]),(7,.box false [.d (aI (usAt x i).kind),.d (.str (usAt x i).name),.d (.str (usAt x i).field)]),(100,.map false (nkD (((cA x).take (i+1)).foldl (folS a b (folF a b f)) M)) (trD (((cA x).take (i+1)).foldl (folS a b (folF a b f)) M)))]) (rfl) [1,2,3,4,100] bG (by simp[e]) (λi id h=>by simpa using oC id h) (λi=>bB [(1,.bx 1 0),(2,.bx 2 0),(3,.bx 3 0),(4,.bx 4 0),(6,.d (aI (usAt x i).bk)),(7,.bx 7 0)]) (λi=>aK [(1,.box false [.d (ndsD a),.d (.mp (pgKs a) (pgVs a.length))]),(2,.box false [.d (.fn g [])]),(3,.box false [.mp 100]),(4,.box false [.fn 182 [.bx 1 0,.bx 2 0,.bx 3 0,.bx 4 0]]),(7,.box false [.d (aI (usAt x i).kind),.d (.str (usAt x i).name),.d (.str (usAt x i).field)]),(100,.map false (nkD (((cA x).take i).foldl (folS a b (folF a b f)) M)) (trD (((cA x).take i).foldl (folS a b (folF a b f)) M)))]) [1,2,3,4,7,100] (λi id h=>by simpa using oC id h) (λi K=>?_) (λw1 O i L e c=>?_) (λw1 O i L e c=>?_) ?_
 .simp
 .obtain⟨u,y,rfl⟩:=eJ c;have l:=usAt_eq y;apply aE;simp;apply aJ;simp;exact aA e [1,2,3,4,6,7] [(1,1),(2,2),(3,3),(4,4),(7,7),(100,100)] (by simp[l]) (by simp[l])
 .obtain⟨u,y,rfl⟩:=eJ c;have l:=usAt_eq y;obtain⟨o,D⟩:∃o,((cA x).take i).foldl (folS a b (folF a b f)) M=o:=⟨_,rfl⟩;have E:((cA x).take (i+1)).foldl (folS a b (folF a b f)) M=folS a b (folF a b f) o u:=by
   obtain⟨K,S⟩:=B9.1 y;rw[A4 K,F1,S,D];rfl
  have Y:muN a.length o<f+1:=by
   refine Nat.lt_of_le_of_lt (muN_le λk V=>?_) U;rw[<-D];exact foldl_keeps (folS_keeps a b f) _ M k V
  simp[l,D];apply aY;apply aE;simp[look_at,bM];apply aF;by_cases v:(atN a u.name).isSome=true
  rotate_left
  .refine Ar hT hW (λ_=>none) (by intro d;first|exact⟨rfl,λ_ h=>h⟩|(split<;>exact⟨rfl,λ_ h=>h⟩)) ?_;simp[v];have q:folS a b (folF a b f) o u=o:=by unfold folS;rw[show atN a u.name=none by simpa using v]
   apply aM;simp[v];apply aG;simp;exact aA e [] [(1,1),(2,2),(3,3),(4,4),(7,7),(100,100)] (hH:=by simp[l,E,q])
  .obtain⟨j,w⟩:∃j,atN a u.name=some j:=by cases h:atN a u.name<;>simp_all
   have s:=atN_lt w;have B:atI a u.name=(j:Nat):=by unfold atI;rw[w];rfl
   have kb:=C u.bk;have W:=λ(H:dP) (h:rY H (.mp 100)=some (nkD o,trD o))=>look_nat o (k:=j) h;refine bH (og 30 (.plain ⟨.d (.bool (b u.bk)),true⟩)) ?_;simp[v,B,W,rY];refine⟨kb,?_⟩;apply aM;simp;refine⟨λA n=>?_,λA=>?_⟩
   .have q:folS a b (folF a b f) o u=folF a b f j (o++[j]):=by unfold folS;rw[w];exact if_pos ⟨A,n⟩
    apply aE;simp[put_nat o n];refine bH (og 42 (.gen ⟨[(1,1),(2,2),(3,3),(4,4),(100,100)],[],[],folH a g (folF a b f j (o++[j])),.tup []⟩)) ?_;simp[folH];have Q:=Z j (o++[j]) s (by have:=muN_lt s n;omega);refine⟨by simpa using Q,?_⟩;exact aA e [] [(1,1),(2,2),(3,3),(4,4),(7,7),(100,100)] (hH:=by simp[l,E,q])
   .have q:folS a b (folF a b f) o u=o:=by unfold folS;rw[w];exact if_neg (by simpa using A)
    apply aG;simp;exact aA e [] [(1,1),(2,2),(3,3),(4,4),(7,7),(100,100)] (hH:=by simp[l,E,q])
 .simp;exact aA e [] [(1,1),(2,2),(3,3),(4,4),(100,100)] (hH:=by simp[P])
theorem fol_ok(a:List Nd)(b:Int->Bool)(g:FuncId)(d:∀t∈a,weighN t<=1000000000)(c:∀k,Ok prog g [aI k] ⟨.d (.bool (b k)),true⟩):∀(f k:Nat) (M:List Nat),k<a.length->muN a.length M<f->mH prog 182 [.d (aI (k:Int)),.bx 1 0,.bx 2 0,.bx 3 0,.bx 4 0] (folH a g M) (folH a g (folF a b f k M)) (.tup [])
 |0,_,_,_,h=>absurd h (C6 _)
 |f+1,k,M,hk,h=>fol_step a b g f k M d c hk h λl i e j=>fol_ok a b g d c f l i e j
def reachI(ts:List Nd)(b:Int->Bool)(i:Nat):List Nat:=folF ts b (ts.length+1) i []
theorem reached_ok(a:List Nd)(b:Int->Bool)(g:FuncId)(i:Nat)(d:∀t∈a,weighN t<=1000000000)(c:∀k,Ok prog g [aI k] ⟨.d (.bool (b k)),true⟩)(e:i<a.length):Ok prog 104 [pgD a,aI (i:Int),.fn g []] ⟨.d (.mp (nkD (reachI a b i)) (trD (reachI a b i))),false⟩:=by
 refine bU func104 rfl ntmps104 results104 λh X f=>?_;apply aE;simp[pgD];apply aE;simp;apply aE;simp;apply aE;simp;refine dF (og 13 (.gen ⟨[(3,1),(5,2),(7,3),(8,4),(9,100)],[],[],folH a g (reachI a b i),.tup []⟩)) ?_;simp[folH];refine⟨by simpa [folH,reachI,nkD,trD]using fol_ok a b g d c (a.length+1) i [] e (Nat.lt_succ_of_le (F0 (B5 _ _) bA)),?_⟩;apply aE;simp;apply aH;simp
theorem check1_ok(k:Int):Ok prog 172 [aI k] ⟨.d (.bool (decide (k=14))),true⟩:=by
 refine bU func172 rfl ntmps172 results172 λb X a=>?_;apply aE;simp;apply aE;simp;apply aH;simp
theorem slice1_ok(k:Int):Ok prog 105 [aI k] ⟨.d (.bool true),true⟩:=by
 refine bU func105 rfl ntmps105 results105 λb X a=>?_;apply aE;simp;apply aE;simp;apply aH;simp
end
def dedup{α:Type}[DecidableEq α]:List α->List α
 |a::b::r=>if a=b then dedup (b::r)else a::dedup (b::r)
 |l=>l
theorem dedup_snoc{α:Type}[DecidableEq α]:∀(l:List α) (x:α) (h:l≠[]),dedup (l++[x])=if l.getLast h=x then dedup l else dedup l++[x]
 |[a],x,_=>by
  simp only[D7,List.nil_append,dedup,List.getLast_singleton];split<;>rename_i e<;>simp[e]
 |a::b::r,x,_=>by
  have d:=dedup_snoc (b::r) x bA;have f:(a::b::r).getLast bA=(b::r).getLast bA:=bA;rw[f];simp only[D7]at d|-;simp only[dedup];rw[d];by_cases c:a=b
  .simp only[if_pos c]
  .simp only[if_neg c];split<;>rfl
theorem take_last{α:Type}{l:List α}{p:Nat}(c:0<p)(b:p<=l.length)(a:l.take p≠[]):(l.take p).getLast a=l[p-1]:=by
 rw[List.getLast_eq_getElem];simp[Nat.min_eq_left b]
theorem dedup_take{α:Type}[DecidableEq α]{l:List α}{p:Nat}(b:0<p)(d:p<l.length):dedup (l.take (p+1))=if l[p-1]=l[p]then dedup (l.take p)else dedup (l.take p)++[l[p]]:=by
 have a:l.take p≠[]:=λe=>by have:=congrArg List.length e;rw[B7,F4]at this;omega
 have c:l.take (p+1)=l.take p++[l[p]]:=bA;rw[c,dedup_snoc _ _ a,take_last b aD]
theorem dedup_length{α:Type}[DecidableEq α]:∀l:List α,(dedup l).length<=l.length
 |a::b::r=>by
  have:=dedup_length (b::r);simp only[dedup];split
  .simp at*;omega
  .simp at*;omega
 |[]=>A0 _
 |[_]=>A0 _
theorem mem_dedup{α:Type}[DecidableEq α]{x:α}:∀l:List α,x∈dedup l↔x∈l
 |a::b::r=>by
  have:=mem_dedup (x:=x) (b::r);simp only[dedup];split
  .rename_i e;rw[this];subst e;simp
  .rw[B0,this];simp
 |[]=>Iff.rfl
 |[_]=>Iff.rfl
def Rising{α:Type}(lt:α->α->Bool)(l:List α):Prop:=l.Pairwise λa b=>lt a b=true
structure STO{α:Type}(lt:α->α->Bool):Prop where
 irrefl:∀a,lt a a=false
 trans:∀a b c,lt a b=true->lt b c=true->lt a c=true
 total:∀a b,lt a b=false->lt b a=false->a=b
theorem STO.asym{α:Type}{c:α->α->Bool}(O:STO c){a b:α}(h:c a b=true):c b a=false:=by
 cases q:c b a with
 |false=>rfl
 |true=>have:=O.trans a b a h q;rw[O.irrefl]at this;cases this
theorem rising_eq{α:Type}{n:α->α->Bool}(O:STO n):∀{l m:List α},Rising n l->Rising n m->(∀x,x∈l↔x∈m)->l=m
 |[],[],_,_,_=>rfl
 |[],b::m,_,_,h=>by have:=(h b).2 bA;cases this
 |a::l,[],_,_,h=>by have:=(h a).1 bA;cases this
 |a::l,b::m,hl,hm,h=>by
  have c:=B4.1 hl;have d:=B4.1 hm;have k:a=b:=by
   have f:=(h a).1 bA;have g:=(h b).2 bA;rcases B0.1 f with f|f
   .exact f
   .rcases B0.1 g with g|g
    .exact g.symm
    .have:=O.asym (c.1 b g);rw[d.1 a f]at this;cases this
  subst k;rw[rising_eq O c.2 d.2 λx=>?_];constructor
  .intro i;rcases B0.1 ((h x).1 (by simp[i]))with e|j
   .subst e;have:=c.1 x i;rw[O.irrefl]at this;cases this
   .exact j
  .intro i;rcases B0.1 ((h x).2 (by simp[i]))with e|j
   .subst e;have:=d.1 x i;rw[O.irrefl]at this;cases this
   .exact j
theorem dedup_rising{α:Type}[DecidableEq α]{d:α->α->Bool}(O:STO d):∀{l:List α},l.Pairwise (λa b=>d b a=false)->Rising d (dedup l)
 |[],_=>.nil
 |[_],_=>List.pairwise_singleton _ _
 |a::b::r,h=>by
  have f:=B4.1 h;have i:=dedup_rising O f.2;simp only[dedup];split
  .exact i
  .rename_i g;refine B4.2 ⟨λx e=>?_,i⟩;have e:=(mem_dedup _).1 e;have j:=f.1 b bA;have c:d a b=true:=by
    cases q:d a b with
    |true=>rfl
    |false=>exact absurd (O.total a b q j) g
   rcases B0.1 e with rfl|e
   .exact c
   .have k:=(B4.1 f.2).1 x e;cases q:d b x with
    |true=>exact O.trans _ _ _ c q
    |false=>have:=O.total b x q k;subst this;exact c
theorem mem_insAt{α:Type}{k:Nat}{x y:α}{out:List α}:y∈iP k x out↔y=x\/y∈out:=by
 unfold iP;rw[F5,B0]
 conv=>rhs;rw[<-E1 k out,F5]
 constructor
 .rintro(h|h|h)<;>simp[h]
 .rintro(h|h|h)<;>simp[h]
theorem rpos_spec{α:Type}{p:α->Bool}{out:List α}:∀k,k<=out.length->(∀i (h:i<out.length),kQ p out k<=i->i<k->p out[i]=true)/\(∀i (h:i<out.length),kQ p out k=i+1->p out[i]=false)
 |0,_=>⟨λi _ _ h=>aD,λi _ h=>by simp[kQ]at h⟩
 |k+1,hk=>by
  have c:k<out.length:=aD;obtain⟨d,f⟩:=rpos_spec k aD (p:=p) (out:=out);cases q:p out[k]with
  |true=>
   rw[AB c q];refine⟨λi a b g=>?_,f⟩;by_cases e:i=k
   .subst e;exact q
   .exact d i a b aD
  |false=>
   have:kQ p out (k+1)=k+1:=sJ λi e a=>by
    have:i=k:=aD;subst this;exact q
   rw[this];exact⟨λi _ d f=>aD,λi a e=>by
    have:i=k:=aD;subst this;exact q⟩
section
attribute[local simp] aR bK bE aO aL aZ aP
attribute[local simp] kJ.cond Nd.d_eq nd_t nd_dr nd_td ndsD
theorem dedup_one{l:List aV}:dedup (l.take 1)=l.take 1:=by cases l<;>simp[dedup]
theorem dedup_small{l:List aV}(h:l.length<2):dedup l=l:=by
 match l,h with
 |[],_=>rfl
 |[_],_=>rfl
theorem drop_get{α:Type}{a b:List α}{p i:Nat}(h:a.drop p=b.drop p)(f:p<=i)(d:i<a.length)(e:i<b.length):a[i]=b[i]:=by
 have c:=congrArg (·[i-p]?) h;simp only[List.getElem?_drop,show p+(i-p)=i by omega,A3 d,A3 e]at c;exact Option.some.inj c
theorem CloneStr_ok(l:List aV)(d:l.length<=1000000000000):Ok prog 247 [AA l] ⟨.own 1 (l.map .str),true⟩:=by
 refine bU func247 rfl ntmps247 results247 λf X e=>?_;apply aE;simp;apply fL;refine DW hT hW 4 (decide (l=[])) (λ_=>none) (λ_=>⟨rfl,λ_ h=>h⟩) jM λc a=>?_;simp;apply aM;simp;refine⟨λb=>?_,λb=>?_⟩
 .apply aE;simp;apply aH;have:=a b;simp at this;simp[this]
 .apply aG;simp;apply aE;simp;refine⟨aD,?_⟩;apply aH;simp
theorem CompactStr_ok(l:List aV)(E:l.length<=8000000000000):mH prog 246 [.ow 0 0 l.length] [(0,.row false 1 (l.map .str))] [(0,.row false 1 ((dedup l).map .str++A2 (l.length-(dedup l).length) (.str [])))] (.ow 0 0 (dedup l).length):=by
 refine nE func246 rfl ntmps246 results246 λF X b=>?_;apply aE;simp;apply aF;apply bF;simp;refine⟨λB=>?_,λB=>?_⟩
 .apply aE;simp;apply aH;simp;refine aA b [2] [(0,0)] ?_ ?_
  .simp[dedup_small (by omega:l.length<2)]
  .simp[dedup_small (by omega:l.length<2)]
 .apply aG;simp;apply eT;simp;apply aY;refine bC (ι:=Nat) (λk=>bB [(0,.ow 0 0 l.length),(3,.d (aI k))]) (λk=>aK [(0,.row false 1 (l.map .str))]) (λk=>1<=k/\k<=l.length/\dedup (l.take k)=l.take k) (λk=>l.length-k) 1 (aA b [0,3] [(0,0)]) (⟨aD,aD,dedup_one⟩) λk d=>?_;apply aF;apply bF;simp;refine⟨λi=>?_,λi=>?_⟩
  .apply aG;simp;apply eE;apply aF;refine fF.rd [] [] (λ_=>none) ?_;simp[(show((k:Int)- 1).toNat=k-1 by omega),i,(show k-1<l.length by omega)];refine⟨aD,?_⟩;apply aM;simp;refine⟨λs=>?_,λs=>?_⟩
   .apply aE;simp;refine⟨aD,?_⟩;apply eT;simp;apply aY;refine bC (ι:=Nat×Nat×List aV) (λ⟨q,a,r⟩=>bB [(0,.ow 0 0 l.length),(3,.d (aI a)),(4,.ow 0 k (l.length-k)),(5,.d (aI q))]) (λ⟨q,a,r⟩=>aK [(0,.row false 1 (r.map .str))]) (λ⟨q,a,r⟩=>1<=q/\k+q<=l.length/\1<=a/\a+1<=k+q/\r.length=l.length/\r.take a=dedup (l.take (k+q))/\r.drop (k+q-1)=l.drop (k+q-1)) (λ⟨q,a,r⟩=>l.length-k-q) (1,k,l) (aA b [0,3,4,5] [(0,0)]) (⟨aD,aD,aD,aD,rfl,by rw[dedup_take aD i,if_pos s.symm,d.2.2],rfl⟩) λ⟨q,a,r⟩ j=>?_;apply aF;apply bF;simp;refine⟨λC=>?_,λC=>?_⟩
    .apply aG;simp;apply eE;apply aF;obtain⟨x,y,z,A,p,f,g⟩:=j;have n:k+q<l.length:=aD;have u:r[k+q]'aD=l[k+q]:=drop_get g aD aD n;have v:r[k+(q-1)]'aD=l[k+(q-1)]:=drop_get g aD aD aD;refine fF.rd [] [] (λ_=>none) ?_;simp[(show((q:Int)- 1).toNat=q-1 by omega),(show k+q<r.length by omega),(show k+(q-1)<r.length by omega),u,v];refine⟨aD,?_⟩;apply aM;simp;refine⟨λc=>?_,λc=>?_⟩
     .apply aE;simp[(show k+q<r.length by omega),u];refine⟨aD,?_⟩;apply aJ;simp;refine⟨aD,?_⟩;apply aJ;simp;refine⟨aD,?_⟩;refine Oe.mk (q+1,a+1,r.set a l[k+q]) (aA b [0,3,4,5] [(0,0)]) ?_ ?_
      .have t:a<r.length:=aD;have o:¬l[k+q-1]=l[k+q]:=λe=>c (by rw[<-e];congr 1;omega);dsimp only;refine⟨aD,aD,aD,aD,by simp[p],?_,?_⟩
       .rw[A4 (by simpa using t),List.getElem_set_self,List.take_set_of_le aD,f,<-C2,dedup_take aD n,if_neg o]
       .have h:=congrArg (F6 1) g;rw[D2,D2,show k+q-1+1=k+q by omega]at h;rw[show k+(q+1)- 1=k+q by omega,List.drop_set_of_lt aD,h]
      .omega
     .apply aG;simp;apply aJ;simp;refine⟨aD,?_⟩;refine Oe.mk (q+1,a,r) (aA b [0,3,4,5] [(0,0)]) ?_ ?_
      .have o:l[k+q-1]=l[k+q]:=by rw[c];congr 1;omega
       dsimp only;refine⟨aD,aD,aD,aD,p,?_,?_⟩
       .rw[f,<-C2,dedup_take aD n,if_pos o]
       .have h:=congrArg (F6 1) g;rw[D2,D2,show k+q-1+1=k+q by omega]at h;rw[show k+(q+1)- 1=k+q by omega,h]
      .omega
    .apply bQ;simp;apply aE;simp;refine⟨aD,?_⟩;apply aE;simp;refine⟨aD,?_⟩;apply aH;simp;obtain⟨x,y,z,A,p,f,g⟩:=j;have n:k+q=l.length:=aD;rw[n,C5]at f;have m:(dedup l).length=a:=by rw[<-f];simp;omega
     refine aA b [2] [(0,0)] ?_ ?_
     .simp[m]
     .have D:F6 (a+(l.length-a)) (List.map DV.str r)=[]:=List.drop_eq_nil_of_le kH;simp;rw[D,m,<-f,List.map_take,F2]
   .apply aG;simp;apply aJ;simp;refine⟨aD,?_⟩;refine Oe.mk (k+1) (aA b [0,3] [(0,0)]) ?_ ?_
    .have w:¬l[k-1]=l[k]:=λe=>s e.symm;exact⟨aD,i,by rw[dedup_take aD i,if_neg w,d.2.2];simp⟩
    .omega
  .apply bQ;simp;apply aE;simp;apply aH;simp;have q:k=l.length:=aD;have e:=d.2.2;rw[q,C5]at e;refine aA b [2] [(0,0)] ?_ ?_
   .simp[e]
   .simp[e]
end
section
attribute[local simp] aR bK bE aO aL aZ aP
attribute[local simp] kJ.cond Nd.d_eq nd_t nd_dr nd_td ndsD aU bO dH
def prH(s:aV)(T:List Tk)(p:PS):List (Nat×bJ):=[(0,.box false [.d (.str s),.d (.sl (T.map Tk.r)),.d (aI ((T.length:Int)- p.l.length)),.d (.bool (!decide (p.e=0))),.d (.bool (decide (p.e=5)))])]
attribute[local simp] prH
theorem fail2_0{p:PS}:((p.fail 2).e=0)=False:=eq_false (fail_e bG)
theorem fail5_0{p:PS}:((p.fail 5).e=0)=False:=eq_false (fail_e bG)
theorem fail2_5{p:PS}:((p.fail 2).e=5)=(p.e=5):=by
 unfold PS.fail;split
 .rename_i h;simp[h]
 .rfl
theorem skip_e{p:PS}:p.skip.e=p.e:=rfl
attribute[local simp] fail2_0 fail5_0 fail2_5 qE skip_e
end
section
attribute[local simp] aR bK bE aO aL aZ aP
attribute[local simp] kJ.cond Nd.d_eq nd_t nd_dr nd_td ndsD aU bO dH prH fail2_0 fail5_0 fail2_5 qE skip_e
end
section
attribute[local simp] aR bK bE aO aL aZ aP
attribute[local simp] kJ.cond Nd.d_eq nd_t nd_dr nd_td ndsD aU bO mP dU dH
attribute[local simp] mI Cu Cv Cw Kd
theorem exprO_reads(n:Nat):jP n 285 (λq=>exprP false (q.l.length+1) q):=
 ⟨λq _ a=>(Et (q.l.length+1)).ok q (D8 _) a,λq b a=>(Ec n).le q b a⟩
theorem stmtP_eats:∀n,ZD n (stmtP false n)
 |0=>λq h=>absurd h (C6 _)
 |n+1=>MQ (exprO_stk false) (blockB_stk (stmtP_stk false n)) (Ec (n+1)) (xY (stmtP_stk false n) (vX n))
theorem jP.stmt:∀n:Nat,n<=1100000->jP n 235 (stmtP false n)
 |0,_=>⟨λq h _=>absurd h (C6 _),λq h _=>absurd h (C6 _)⟩
 |n+1,h=>by
  have c:jP n 160 (blockB (stmtP false n)):=
   ⟨λq b a=>Kb q n (stmtP false n) (jP.stmt n aD) (stmtP_eats n) b a aD,λq b a=>(xY (stmtP_stk false n) (vX n)).le q b a⟩
  refine⟨λq b a=>?_,λq b a=>(vX (n+1)).le q b a⟩;exact MR q n (λq=>exprP false (q.l.length+1) q) (blockB (stmtP false n)) (exprO_reads (n+1)) c b a
theorem jP.block(n:Nat)(h:n<=1100000):jP n 160 (blockP false n):=
 ⟨λq b a=>Kb q n (stmtP false n) (jP.stmt n h) (stmtP_eats n) b a aD,λq b a=>(xY (stmtP_stk false n) (vX n)).le q b a⟩
theorem def_idx(s:aV):defKind s=oY (λx=>decide (s=x)) (wordsL.take 7):=by
 unfold defKind;have a:(λi=>decide (wordsL.getD i []=s))=λi=>decide (s=wordsL.getD i []):=by funext i;rw[decide_eq_decide];exact eq_comm
 have e:=zX (λx=>decide (s=x)) [] (wordsL.take 7);split
 .rename_i h;subst h;rfl
 .unfold oY;rw[<-e];rw[a];rfl
theorem def_range{s:aV}: -1<=defKind s/\defKind s<=6:=by
 unfold defKind;split
 .omega
 .split
  .rename_i i e;have:=List.mem_of_find?_eq_some e;simp at this;omega
  .omega
theorem def_word{s:aV}(h:0<=defKind s):wordAt (defKind s)=s/\s≠[]:=by
 unfold defKind at*;split at h
 .omega
 .rename_i a;split at h
  .rename_i i e;have:=List.find?_some e;simp only[decide_eq_true_eq]at this;rw[if_neg a];exact⟨this,a⟩
  .omega
theorem def_neg{p:PS}(h:defKind p.peek<0):defP false p=(.mk 0 [] 0 [],p.fail 2):=by unfold defP;simp only[];rw[if_pos h]
theorem def_skip{p:PS}(h:¬defKind p.peek<0):p.skip=p.took (wordAt (defKind p.peek)):=by
 obtain⟨a,b⟩:=def_word (s:=p.peek) aD;rw[a,dI (nK.2 ⟨b,rfl⟩)]
section
variable{p q:PS} {t:aV} {k:Int} (hk:defKind p.peek=k) (h:¬k<0) (hn:nameP (p.took (wordAt k))=(t,q))
include hk h hn
theorem def_block(a:k=5\/k=6):defP false p=(.mk k t 0 [(blockP false (q.l.length+1) q).1],(blockP false (q.l.length+1) q).2):=by
 subst hk;unfold defP;simp only[];rw[if_neg h,def_skip h,hn,if_pos a]
theorem def_rec(a:k=1):defP false p=(.mk k t 0 (itemsF ((q.need [123]).l.length+1) [] (q.need [123])).1,(itemsF ((q.need [123]).l.length+1) [] (q.need [123])).2.need [125]):=by
 subst hk;unfold defP;simp only[];rw[if_neg h,def_skip h,hn,if_neg aD,if_pos a]
theorem def_var(a:k=0):defP false p=(.mk k t (numberP (q.need [61])).1 [],(numberP (q.need [61])).2.need [59]):=by
 subst hk;unfold defP;simp only[];rw[if_neg h,def_skip h,hn,if_neg aD,if_neg aD,if_pos a]
theorem def_chan(a:k=2):defP false p=(.mk k t (numeralP 2 q).1 [],(numeralP 2 q).2.need [59]):=by
 subst hk;unfold defP;simp only[];rw[if_neg h,def_skip h,hn,if_neg aD,if_neg aD,if_neg aD,if_pos a]
theorem def_else(a:¬(k=5\/k=6))(b:¬k=1)(c:¬k=0)(d:¬k=2):defP false p=(.mk k t 0 [],q.need [59]):=by
 subst hk;unfold defP;simp only[];rw[if_neg h,def_skip h,hn,if_neg a,if_neg b,if_neg c,if_neg d]
end
theorem items_end{a:List Nd}{q:PS}(h:q.e=0->q.peek=[125]):∀f,itemsF f a q=(a,q)
 |0=>rfl
 |f+1=>by
  rw[itemsF,if_pos];by_cases e:q.e=0
  .exact .inr (h e)
  .exact .inl e
theorem items_go{a:List Nd}{q:PS}{f:Nat}(c:q.l.length<f)(h:q.e=0)(b:¬q.peek=[125]):
 itemsF f a q=itemsF (f-1) (a++[.mk 7 (nameP q).1 (numberP ((nameP q).2.need [61])).1 []]) ((numberP ((nameP q).2.need [61])).2.need [59]):=by
 obtain⟨k,rfl⟩:∃k,f=k+1:=⟨f-1,aD⟩;rw[itemsF,if_neg]
 .rfl
 .rintro(e|e)
  .exact e h
  .exact b e
theorem item_eats{q:PS}(h:cF q.l):((numberP ((nameP q).2.need [61])).2.need [59]).l.length<=q.l.length/\cF ((numberP ((nameP q).2.need [61])).2.need [59]).l/\
 (((numberP ((nameP q).2.need [61])).2.need [59]).e=0->((numberP ((nameP q).2.need [61])).2.need [59]).l.length<q.l.length):=by
 have b:=dY h;have c:=cK (s:=[61]) b.2.1;have d:=AD c.2;have f:=cK (s:=[59]) d.2.1;refine⟨aD,f.2,λe=>?_⟩;have a:=(need_e e).1;have g:=iH a;have:(numberP ((nameP q).2.need [61])).2.need [59]=(numberP ((nameP q).2.need [61])).2.skip:=by rw[PE a,dI a]
 rw[this];omega
theorem glob0_cells:∀x∈B1 26 uS,(aQ x).length=1:=by
 intro x b;rw[zU]at b;obtain⟨a,_,rfl⟩:=C8.1 b;rfl
theorem glob0_take7:B1 7 uS=(wordsL.take 7).map DV.str:=rfl
structure DnS where
 n:Int
 q:PS
theorem def_ok(p:PS)(hg:cF p.l)(hb:p.l.length<=1000000):mH prog 86 [.bx 0 0] (dU p) (dU (defP false p).2) (.d (defP false p).1.d):=by
 unfold dU;refine lE func86 rfl ntmps86 results86 λw0 X j=>?_;apply aE;simp;apply aF;have W:=rR (wordsL.take 7) p.peek;have q2:=nJ;rw[<-def_idx]at W;have hr:=def_range (s:=p.peek);refine fF.rd [[0]] [[],[],[0]] (λ|8=>some (.gen ⟨[(0,0)],[],[],dU p,.d (.str p.peek)⟩)|9=>some<| .plain ⟨.d (aI (defKind p.peek)),true⟩|_=>none) ?_;simp[glob0_take7];refine⟨⟨⟨⟨aD,glob0_cells⟩,mL p⟩,by simpa using W⟩,?_⟩;apply aF;refine dF (oh 14 (dU p) (.d (.str p.peek))) ?_;simp[BL];refine⟨λ_=>mL p,?_⟩;apply aM;simp;refine⟨λL=>?_,λL a0=>?_⟩
 .have L:defKind p.peek<0:=by
   rcases L with h|h
   .exact h
   .rw[h];decide
  refine dF (oh 18 (dU (p.fail 2)) (.tup [])) ?_;simp;refine⟨yJ p 2,?_⟩;apply aE;simp;apply aH;simp;have e:=def_neg L;refine cP (x:=(defP false p).1.d) (by simp[e]) ?_;simp;exact aA j [0] [(0,0)] (hH:=by simp[e])
 .have c:¬defKind p.peek<0:=aD;apply aG;simp;apply aF;have c:¬defKind p.peek<0:=aD;have U:=yD (k:=defKind p.peek) aD aD;have S:=kD p (wordAt (defKind p.peek));refine bH (oh 24 (dU (p.took (wordAt (defKind p.peek)))) (.d (.bool (p.is (wordAt (defKind p.peek)))))) ?_;simp[U];refine⟨⟨⟨aD,aD⟩,S⟩,?_⟩;apply aF;have P:=AN (p.took (wordAt (defKind p.peek)));have Z:=eI (s:=wordAt (defKind p.peek)) hg;have gl:=dY Z;have lt:(p.took (wordAt (defKind p.peek))).l.length<=p.l.length:=by unfold PS.took;split;exact eN;exact A0 _
  refine bH (oh 27 (dU (nameP (p.took (wordAt (defKind p.peek)))).2) (.d (.str (nameP (p.took (wordAt (defKind p.peek)))).1))) ?_;simp;refine⟨P,?_⟩;obtain⟨k,D⟩:∃k,defKind p.peek=k:=⟨_,rfl⟩;obtain⟨⟨t,q⟩,u⟩:∃x,nameP (p.took (wordAt (defKind p.peek)))=x:=⟨_,rfl⟩;simp only[u]at gl;have lq:q.l.length<=p.l.length:=aD;simp only[u];rw[D]at c u hr|-;refine bI (ι:=DnS) (λ⟨n,r⟩=>bB [(0,.bx 0 0),(2,.bx 2 0),(4,.bx 4 0)]) (λ⟨n,r⟩=>aK [(0,.box false [.d (mP r.l),.d (aI r.e)]),(2,.box false [.d (aI 0),.d (.str []),.d (aI 0),.nl]),(4,.box false [.d (aI k),.d (.str t),.d (aI n),.nl])]) (λ⟨n,r⟩=>defP false p=(.mk k t n [],r.need [59])) ?_ λ⟨n,r⟩ o=>?_
  .apply aE;simp;apply aY;refine bI (ι:=BC) (λ⟨b⟩=>bB [(0,.bx 0 0),(2,.bx 2 0),(4,.bx 4 0),(29,.d (aI k)),(30,.d (.bool b))]) (λ⟨b⟩=>aK [(0,.box false [.d (mP q.l),.d (aI q.e)]),(2,.box false [.d (aI 0),.d (.str []),.d (aI 0),.nl]),(4,.box false [.d (aI k),.d (.str t),.d (aI 0),.nl])]) (λ⟨b⟩=>b=true↔(k=5\/k=6)) ?_ λ⟨b⟩ m=>?_
   .apply bF;simp;refine⟨λV=>?_,λV=>?_⟩
    .apply aG;simp;refine Xv.mk ⟨decide (k=5)⟩ (aA j [0,2,4,29,30] [(0,0),(2,2),(4,4)]) ?_;simp[V]
    .apply aJ;simp;refine Xv.mk ⟨decide (k=6)⟩ (aA j [0,2,4,29,30] [(0,0),(2,2),(4,4)]) ?_;simp only[decide_eq_true_eq];omega
   .apply aM;simp;refine⟨λv=>?_,λv=>?_⟩
    .have C:=m.1 v;apply aF;have O:=(jP.block (q.l.length+1) aD).ok q (D8 _) gl.2.1;refine bH (oh 34 (dU (blockP false (q.l.length+1) q).2) (.d (blockP false (q.l.length+1) q).1.d)) ?_;simp;refine⟨by simpa using O,?_⟩;apply aE;simp;apply aH;simp;have e:=def_block D c u C;refine cP (x:=(defP false p).1.d) (by simp[e]) ?_;simp;exact aA j [0] [(0,0)] (hH:=by simp[e])
    .have C:¬(k=5\/k=6):=λz=>by simp[m.2 z]at v
     apply bF;simp;refine⟨λw=>?_,λw=>?_⟩
     .apply aF;have i:=kX q [123];have F:=cK (s:=[123]) gl.2.1;refine bH (oh 41 (dU (q.need [123])) (.tup [])) ?_;simp;refine⟨i,?_⟩;refine lB (fz:=false) (cs:=[.d (aI k),.d (.str t),.d (aI 0),.nl]) 4 3 1066 4 bG ⟨bA,bA,bA,?_⟩;simp;apply eE;refine bC (ι:=BlS) (λ⟨f,d,r⟩=>bB [(0,.bx 0 0),(2,.bx 2 0),(4,.bx 4 0)]) (λ⟨f,d,r⟩=>aK [(0,.box false [.d (mP r.l),.d (aI r.e)]),(2,.box false [.d (aI 0),.d (.str []),.d (aI 0),.nl]),(4,.box false [.d (aI k),.d (.str t),.d (aI 0),.ow 1066 0 d.length]),(1066,.row false 4 (d.map Nd.d))]) (λ⟨f,d,r⟩=>(r.e=0->r.l.length<f)/\cF r.l/\r.l.length<=p.l.length/\d.length+r.l.length<=p.l.length+(if r.e=0 then 0 else 1)/\itemsF ((q.need [123]).l.length+1) [] (q.need [123])=itemsF f d r) (λ⟨f,d,r⟩=>2*r.l.length+(if r.e=0 then 1 else 0)) ⟨(q.need [123]).l.length+1,[],q.need [123]⟩ (aA j [0,2,4] [(0,0),(2,2),(4,4),(1066,1066)]) (⟨λ_=>D8 _,F.2,by have:=F.1;omega,by have:=F.1;simp only[F4];omega,rfl⟩) λ⟨f,d,r⟩ a=>?_;apply fL;have Q:=mL r;refine bH (oh 49 (dU r) (.d (.str r.peek))) ?_;simp[BL];refine⟨λ_=>Q,?_⟩;apply aM;simp;refine⟨λE Y=>?_,λg=>?_⟩
      .apply aG;simp;apply aY;apply aF;have ha:r.l.length<=p.l.length:=a.2.2.1;have a1:d.length+r.l.length<=p.l.length:=by have z:=a.2.2.2.1;simp only[E,if_true]at z;omega
       have l:=item_eats (q:=r) a.2.1;have G:=AN r;have M:=dY (p:=r) a.2.1;have N:=cK (s:=[61]) M.2.1;refine bH (oh 53 (dU (nameP r).2) (.d (.str (nameP r).1))) ?_;simp;refine⟨G,?_⟩;apply aF;have H:=kX (nameP r).2 [61];refine bH (oh 56 (dU ((nameP r).2.need [61])) (.tup [])) ?_;simp;refine⟨H,?_⟩;apply aF;have I:=Gr ((nameP r).2.need [61]) N.2;refine bH (oh 58 (dU (numberP ((nameP r).2.need [61])).2) (.d (aI (numberP ((nameP r).2.need [61])).1))) ?_;simp;refine⟨I,?_⟩;apply aF;have J:=kX (numberP ((nameP r).2.need [61])).2 [59];refine bH (oh 61 (dU ((numberP ((nameP r).2.need [61])).2.need [59])) (.tup [])) ?_;simp;refine⟨J,?_⟩;apply aJ;simp;refine⟨⟨aD,aD⟩,?_⟩;refine Oe.mk ⟨f-1,d++[.mk 7 (nameP r).1 (numberP ((nameP r).2.need [61])).1 []],(numberP ((nameP r).2.need [61])).2.need [59]⟩ (aA j [0,2,4] [(0,0),(2,2),(4,4),(66,1066)]) ?_ ?_
       .refine⟨λe=>?_,l.2.1,?_,?_,?_⟩
        .show((numberP ((nameP r).2.need [61])).2.need [59]).l.length<f-1;have z:=a.1 E;have h:=l.2.2 e;omega
        .show((numberP ((nameP r).2.need [61])).2.need [59]).l.length<=p.l.length;omega
        .show(d++[Nd.mk 7 (nameP r).1 (numberP ((nameP r).2.need [61])).1 []]).length+((numberP ((nameP r).2.need [61])).2.need [59]).l.length<=p.l.length+(if((numberP ((nameP r).2.need [61])).2.need [59]).e=0 then 0 else 1);rw[E6,List.length_singleton];by_cases e:((numberP ((nameP r).2.need [61])).2.need [59]).e=0
         .rw[if_pos e];have h:=l.2.2 e;omega
         .rw[if_neg e];omega
        .rw[a.2.2.2.2];exact items_go (a.1 E) E Y
       .show 2*((numberP ((nameP r).2.need [61])).2.need [59]).l.length+(if((numberP ((nameP r).2.need [61])).2.need [59]).e=0 then 1 else 0)<2*r.l.length+(if r.e=0 then 1 else 0);rw[if_pos E];by_cases e:((numberP ((nameP r).2.need [61])).2.need [59]).e=0
        .rw[if_pos e];have h:=l.2.2 e;omega
        .rw[if_neg e];omega
      .apply bQ;simp;apply aF;have K:=kX r [125];refine bH (oh 69 (dU (r.need [125])) (.tup [])) ?_;simp;refine⟨K,?_⟩;apply aE;simp;apply aH;simp;have e:defP false p=(.mk k t 0 d,r.need [125]):=by rw[def_rec D c u w,a.2.2.2.2,items_end g]
       refine cP (x:=(defP false p).1.d) (by simp[e]) ?_;simp;exact aA j [0] [(0,0)] (hH:=by simp[e])
     .apply bF;simp;refine⟨λy=>?_,λy=>?_⟩
      .apply aF;have i:=kX q [61];have F:=cK (s:=[61]) gl.2.1;refine bH (oh 74 (dU (q.need [61])) (.tup [])) ?_;simp;refine⟨i,?_⟩;have B:=Gr (q.need [61]) F.2;refine bH (oh 76 (dU (numberP (q.need [61])).2) (.d (aI (numberP (q.need [61])).1))) ?_;simp;refine⟨B,?_⟩;refine Xv.mk ⟨(numberP (q.need [61])).1,(numberP (q.need [61])).2⟩ (aA j [0,2,4] [(0,0),(2,2),(4,4)]) ?_;exact def_var D c u y
      .apply bF;simp;refine⟨λA=>?_,λA=>?_⟩
       .have B:=qK q 2 gl.2.1 bG;refine bH (oh 81 (dU (numeralP 2 q).2) (.d (aI (numeralP 2 q).1))) ?_;simp;refine⟨B,?_⟩;refine Xv.mk ⟨(numeralP 2 q).1,(numeralP 2 q).2⟩ (aA j [0,2,4] [(0,0),(2,2),(4,4)]) ?_;exact def_chan D c u A
       .apply aG;simp;refine Xv.mk ⟨0,q⟩ (aA j [0,2,4] [(0,0),(2,2),(4,4)]) ?_;exact def_else D c u C w y A
  .apply aF;have i:=kX r [59];refine bH (oh 84 (dU (r.need [59])) (.tup [])) ?_;simp;refine⟨i,?_⟩;apply aE;simp;apply aH;simp;refine cP (x:=(defP false p).1.d) (by simp[o]) ?_;simp;exact aA j [0] [(0,0)] (hH:=by simp[o])
end
section
attribute[local simp] aR bK bE aO aL aZ aP
attribute[local simp] kJ.cond Nd.d_eq nd_t nd_dr nd_td ndsD aU bO dH prH fail2_0 fail5_0 fail2_5 qE
section
variable{p q:PS} {t:aV} {k:Int} (hk:defKind p.peek=k) (h:¬k<0) (hn:nameP p.skip=(t,q))
include hk h hn
end
end
section
attribute[local simp] aR bK bE aO aL aZ aP
attribute[local simp] kJ.cond Nd.d_eq nd_t nd_dr nd_td ndsD aU bO dH prH
end
section
attribute[local simp] aR bK bE aO aL aZ aP
attribute[local simp] kJ.cond Nd.d_eq nd_t nd_dr nd_td ndsD aU bO mI Int.add_assoc dH Cu Cv Cw Kd jB
def valK(L:List Int)(d i:Nat):Int:=if d=0\/L.length<i+1 then(dM L i 12).tmod 6 else dM L i 12
theorem valK_range(L:List Int)(d i:Nat):0<=valK L d i/\valK L d i<12/\(d=0->valK L d i<6):=by
 have h:=bY L i 12 bG;unfold valK;split
 .have:(dM L i 12).tmod 6=dM L i 12%6:=A8 h.1;rw[this];omega
 .omega
theorem value_num{L:List Int}{d i:Nat}(h:valK L d i=0\/valK L d i=1):valueM L d i=(.mk 32 [] (numsM.getD (dM L (i+1) 6).toNat 0) [],i+2):=by
 unfold valK at h;unfold valueM;simp only[];rw[if_pos h]
theorem value_loc{L:List Int}{d i:Nat}(h:valK L d i=2):valueM L d i=(.mk 33 (ownM L (i+1)) 0 [],i+2):=by
 have a:¬(valK L d i=0\/valK L d i=1):=aD;unfold valK at h a;unfold valueM;simp only[];rw[if_neg a,if_pos h]
theorem value_place{L:List Int}{d i:Nat}(h:valK L d i=3\/valK L d i=4):valueM L d i=placeM L (i+1):=by
 have a:¬(valK L d i=0\/valK L d i=1):=aD;have b:¬(valK L d i=2):=aD;unfold valK at h a b;unfold valueM;simp only[];rw[if_neg a,if_neg b,if_pos h]
theorem value_kind{L:List Int}{d i:Nat}(h:valK L d i=5):valueM L d i=(.mk 36 [] 0 [],i+1):=by
 have a:¬(valK L d i=0\/valK L d i=1):=aD;have b:¬(valK L d i=2):=aD;have c:¬(valK L d i=3\/valK L d i=4):=aD;unfold valK at h a b c;unfold valueM;simp only[];rw[if_neg a,if_neg b,if_neg c,if_pos h]
theorem value_bin{L:List Int}{e i:Nat}(h:6<=valK L (e+1) i):valueM L (e+1) i=(.mk (26+valK L (e+1) i-6) [] 0 [(valueM L e (i+1)).1,(valueM L e (valueM L e (i+1)).2).1],(valueM L e (valueM L e (i+1)).2).2):=by
 have a:¬(valK L (e+1) i=0\/valK L (e+1) i=1):=aD;have b:¬(valK L (e+1) i=2):=aD;have c:¬(valK L (e+1) i=3\/valK L (e+1) i=4):=aD;have d:¬(valK L (e+1) i=5):=aD;rw[valueM];have f:(if e+1=0\/L.length<i+1 then(dM L i 12).tmod 6 else dM L i 12)=valK L (e+1) i:=rfl;rw[f,if_neg a,if_neg b,if_neg c,if_neg d]
theorem place_to(L:List Int)(i:Nat):(placeM L i).2<=i+3:=by unfold placeM;split<;>simp
theorem value_to(L:List Int):∀(d i:Nat),(valueM L d i).2+1<=i+5*2^d:=λd=>by
 induction d with
 |zero=>
  intro i;obtain⟨l,_,h⟩:=valK_range L 0 i;have h:=h rfl;by_cases c:valK L 0 i=0\/valK L 0 i=1
  .rw[value_num c];simp
  .by_cases f:valK L 0 i=2
   .rw[value_loc f];simp
   .by_cases g:valK L 0 i=3\/valK L 0 i=4
    .rw[value_place g];have:=place_to L (i+1);omega
    .rw[value_kind aD];simp
 |succ e ih=>
  intro i;have m:1<=2^e:=D3;have g:2^(e+1)=2*2^e:=by rw[C7,E9]
  obtain⟨l,_,_⟩:=valK_range L (e+1) i;by_cases c:valK L (e+1) i=0\/valK L (e+1) i=1
  .rw[value_num c];simp only;omega
  .by_cases f:valK L (e+1) i=2
   .rw[value_loc f];simp only;omega
   .by_cases j:valK L (e+1) i=3\/valK L (e+1) i=4
    .rw[value_place j];have:=place_to L (i+1);omega
    .by_cases k:valK L (e+1) i=5
     .rw[value_kind k];simp only;omega
     .rw[value_bin aD];have a:=ih (i+1);have b:=ih (valueM L e (i+1)).2;simp only;omega
theorem MValue_step(L:List Int)(d i:Nat)(n:Iy L)(F:L.length<=1000000)(K:i+5*2^d<=2000000)(w:∀e,d=e+1->∀j,j+5*2^e<=2000000->mH prog 276 [.bx 0 0,.d (aI (e:Nat))] (jB L j) (jB L (valueM L e j).2) (.d (valueM L e j).1.d)):mH prog 276 [.bx 0 0,.d (aI (d:Nat))] (jB L i) (jB L (valueM L d i).2) (.d (valueM L d i).1.d):=by
 have C:1<=2^d:=D3;unfold jB;refine lE func276 rfl ntmps276 results276 λO X c=>?_;apply aE;simp;apply aF;have s:=fM L i 12 n aD bG;refine bH (oh 8 (jB L (i+1)) (.d (aI (dM L i 12)))) ?_;simp;refine⟨by simpa using s,?_⟩;refine bI (ι:=KC) (λ⟨k⟩=>bB [(0,.bx 0 0),(1,.d (aI (d:Nat))),(4,.bx 4 0),(5,.d (aI k))]) (λ⟨k⟩=>aK [(0,.box false [.d (.sl (L.map aI)),.d (aI ((i+1:Nat):Int))]),(4,.box false [.d (aI 0),.d (.str []),.d (aI 0),.nl])]) (λ⟨k⟩=>valK L d i=k) ?_ λ⟨k⟩ a=>?_
 .apply aF;refine fF.rd [] [] (λ_=>none) ?_;simp;apply aM;simp;refine⟨λA=>?_,λA B=>?_⟩
  .apply aJ;simp;refine Xv.mk ⟨(dM L i 12).tmod 6⟩ (aA c [0,1,4,5] [(0,0),(4,4)]) ?_;unfold valK;rw[if_pos aD]
  .apply aG;simp;refine Xv.mk ⟨dM L i 12⟩ (aA c [0,1,4,5] [(0,0),(4,4)]) ?_;unfold valK;rw[if_neg aD]
 .apply eT;simp;apply aY;refine bI (ι:=BC) (λ⟨b⟩=>bB [(0,.bx 0 0),(1,.d (aI (d:Nat))),(4,.bx 4 0),(5,.d (aI k)),(25,.d (aI (k))),(26,.d (.bool b))]) (λ⟨b⟩=>aK [(0,.box false [.d (.sl (L.map aI)),.d (aI ((i+1:Nat):Int))]),(4,.box false [.d (aI 0),.d (.str []),.d (aI 0),.nl])]) (λ⟨b⟩=>b=true↔(k=0\/k=1)) ?_ λ⟨b⟩ m=>?_
  .apply bF;simp;refine⟨λv=>?_,λv=>?_⟩
   .apply aG;simp;refine Xv.mk ⟨decide (k=0)⟩ (aA c [0,1,4,5,25,26] [(0,0),(4,4)]) ?_;simp[v]
   .apply aJ;simp;refine Xv.mk ⟨decide (k=1)⟩ (aA c [0,1,4,5,25,26] [(0,0),(4,4)]) ?_;simp only[decide_eq_true_eq];omega
  .apply aM;simp;refine⟨λr=>?_,λr=>?_⟩
   .have J:=m.1 r;apply aF;have s:=fM L (i+1) 6 n aD bG;have M:=bY L ((i:Int)+1) 6 bG;have h:=ZF (L:=L) (i:=i+1);simp[numsM]at h;refine bH (oh 31 (jB L (i+1+1)) (.d (aI (dM L ((i:Int)+1) 6)))) ?_;simp[h];refine⟨⟨⟨⟨bG,by simpa using s⟩,aD⟩,aD⟩,?_⟩;apply aH;simp;have e:=value_num (L:=L) (d:=d) (i:=i) (by simp only at a;omega);refine cP (x:=(valueM L d i).1.d) (by simp[e,numsM]) ?_;simp;exact aA c [0] [(0,0)] (hH:=by simp[e])
   .have J:¬(k=0\/k=1):=λq=>by simp[m.2 q]at r
    apply bF;simp;refine⟨λD=>?_,λD=>?_⟩
    .apply aF;have h:=AQ L (i+1) n aD;refine bH (oh 38 (jB L (i+1+1)) (.d (.str (ownM L (i+1))))) ?_;simp;refine⟨by simpa using h,?_⟩;apply aH;simp;have e:=value_loc (L:=L) (d:=d) (i:=i) (by simp only at a;omega);refine cP (x:=(valueM L d i).1.d) (by simp[e]) ?_;simp;exact aA c [0] [(0,0)] (hH:=by simp[e])
    .refine bI (ι:=BC) (λ⟨b⟩=>bB [(0,.bx 0 0),(1,.d (aI (d:Nat))),(4,.bx 4 0),(5,.d (aI k)),(25,.d (aI (k))),(40,.d (.bool b))]) (λ⟨b⟩=>aK [(0,.box false [.d (.sl (L.map aI)),.d (aI ((i+1:Nat):Int))]),(4,.box false [.d (aI 0),.d (.str []),.d (aI 0),.nl])]) (λ⟨b⟩=>b=true↔(k=3\/k=4)) ?_ λ⟨b⟩ f=>?_
     .apply bF;simp;refine⟨λl=>?_,λl=>?_⟩
      .apply aG;simp;refine Xv.mk ⟨decide (k=3)⟩ (aA c [0,1,4,5,25,40] [(0,0),(4,4)]) ?_;simp[l]
      .apply aJ;simp;refine Xv.mk ⟨decide (k=4)⟩ (aA c [0,1,4,5,25,40] [(0,0),(4,4)]) ?_;simp only[decide_eq_true_eq];omega
     .apply aM;simp;refine⟨λg=>?_,λg=>?_⟩
      .have t:=f.1 g;apply aF;have h:=UY L (i+1) n aD;refine bH (oh 44 (jB L (placeM L (i+1)).2) (.d (placeM L (i+1)).1.d)) ?_;simp;refine⟨by simpa using h,?_⟩;apply aH;simp;have e:=value_place (L:=L) (d:=d) (i:=i) (by simp only at a;omega);refine cP (x:=(valueM L d i).1.d) (by simp[e]) ?_;simp;exact aA c [0] [(0,0)] (hH:=by simp[e])
      .have t:¬(k=3\/k=4):=λq=>by simp[f.2 q]at g
       apply bF;simp;refine⟨λp=>?_,λp=>?_⟩
       .apply aE;simp;apply aH;simp;have e:=value_kind (L:=L) (d:=d) (i:=i) (by simp only at a;omega);refine cP (x:=(valueM L d i).1.d) (by simp[e]) ?_;simp;exact aA c [0] [(0,0)] (hH:=by simp[e])
       .apply aG;simp;apply aF;have E:6<=k/\k<12:=by have:=valK_range L d i;simp only at a;omega
        obtain⟨e,rfl⟩:∃e,d=e+1:=⟨d-1,by have:=valK_range L d i;simp only at a;omega⟩;have H:2^(e+1)=2*2^e:=by rw[C7,E9]
        have I:1<=2^e:=D3;have G:e<2^e:=Nat.lt_two_pow_self;have y:=w e rfl (i+1) aD;have N:=value_to L e (i+1);have z:=w e rfl (valueM L e (i+1)).2 aD;have u:((e:Int)+1)- 1=e:=aD;refine bH (oh 51 (jB L (valueM L e (i+1)).2) (.d (valueM L e (i+1)).1.d)) ?_;simp[u];refine⟨⟨aD,by simpa using y⟩,?_⟩;apply aF;refine fF.rd [[0,60],[0,60],[0,60],[0]] [[],[],[],[],[],[],[],[0],[60],[],[4]] (oh 59 (jB L (valueM L e (valueM L e (i+1)).2).2) (.d (valueM L e (valueM L e (i+1)).2).1.d)) ?_;simp[u];refine⟨⟨⟨⟨⟨aD,aD⟩,aD⟩,by simpa using z⟩,bG⟩,?_⟩;apply aH;simp;have o:=value_bin (L:=L) (e:=e) (i:=i) (by simp only at a;omega);rw[show valK L (e+1) i=k from a]at o;refine cP (x:=(valueM L (e+1) i).1.d) (by simp[o]) ?_;simp;exact aA c [0] [(0,0)] (hH:=by simp[o])
theorem MValue_ok(L:List Int)(c:Iy L)(a:L.length<=1000000):∀(d i:Nat),i+5*2^d<=2000000->mH prog 276 [.bx 0 0,.d (aI (d:Nat))] (jB L i) (jB L (valueM L d i).2) (.d (valueM L d i).1.d):=λd=>by
 induction d with
 |zero=>exact λi b=>MValue_step L 0 i c a b λe f=>aD
 |succ d ihd=>
  intro i b;refine MValue_step L (d+1) i c a b λe f j g=>?_;have:e=d:=aD;subst this;exact ihd j g
end
end Go.Eng
