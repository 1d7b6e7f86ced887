/- Part 9 of the proof. No condition. -/
import Derived.Test.YtjdlbidjlfllcaaGreatDoorMH
import Derived.Test.YtjdlbidjlfllcaaGreatDoorRows
import Derived.ChangeSame
import Derived.Lib.LaidTab
open Go.Proofs
set_option linter.unusedVariables false
set_option linter.unusedSimpArgs false
set_option maxRecDepth 20000
set_option maxHeartbeats 4000000
namespace Go.Eng
inductive gZ{α:Type}(S:α->α->Prop):α->α->Prop
 |one {i k:α}:S i k->gZ S i k
 |more {i j k:α}:gZ S i j->S j k->gZ S i k
theorem gZ.head{α:Type}{S:α->α->Prop}{i j k:α}(h:S i j)(r:gZ S j k):gZ S i k:=by
 induction r with
 |one h2=>exact .more (.one h) h2
 |more _ h2 ih=>exact .more ih h2
def pD(ts:List Nd)(b:Int->Bool)(i k:Nat):Prop:=∃u∈aW (ts.getD i default),b u.bk=true/\lB ts u.name=some k
theorem BV(ts:List Nd)(b:Int->Bool):∀(f i:Nat) (M:List Nat),MG ts.length M<f->
 (∀k∈fA ts b f i M,k∈M\/gZ (pD ts b) i k)/\(∀k,pD ts b i k->k∈fA ts b f i M)/\∀j∈fA ts b f i M,j∉M->∀k,pD ts b j k->k∈fA ts b f i M
 |0,_,_,h=>absurd h (Nat.not_lt_zero _)
 |f+1,i,M,h=>by
  rw[xV];have key:∀(us:List bZ) (M0:List Nat),(∀u∈us,u∈aW (ts.getD i default))->MG ts.length M0<f+1->
   (∀k∈us.foldl (gQ ts b (fA ts b f)) M0,k∈M0\/gZ (pD ts b) i k)/\(∀u∈us,∀k,b u.bk=true->lB ts u.name=some k->k∈us.foldl (gQ ts b (fA ts b f)) M0)/\
   ∀j∈us.foldl (gQ ts b (fA ts b f)) M0,j∉M0->∀k,pD ts b j k->k∈us.foldl (gQ ts b (fA ts b f)) M0:=λus=>by
   induction us with
   |nil=>exact λM0 _ _=>⟨λk hk=>.inl hk,by simp,λj hj hn=>absurd hj hn⟩
   |cons u r ihr=>
    intro M0 hu hm;rw[List.foldl_cons];obtain⟨M1,hM1⟩:∃M1,gQ ts b (fA ts b f) M0 u=M1:=⟨_,rfl⟩;have hsub:∀k∈M0,k∈M1:=λk hk=>by rw[<-hM1];exact uT ts b f M0 u k hk
    have hm1:MG ts.length M1<f+1:=Nat.lt_of_le_of_lt (PP hsub) hm;obtain⟨r1,r2,r3⟩:=ihr M1 (λv hv=>hu v (List.mem_cons_of_mem _ hv)) hm1;have hkeep:∀k∈M1,k∈r.foldl (gQ ts b (fA ts b f)) M1:=λk hk=>nR (uT ts b f) r M1 k hk;have hone:(∀k∈M1,k∈M0\/gZ (pD ts b) i k)/\(∀k,b u.bk=true->lB ts u.name=some k->k∈M1)/\∀j∈M1,j∉M0->∀k,pD ts b j k->k∈M1:=by
     unfold gQ at hM1;split at hM1
     ·rename_i k hk;split at hM1
      ·rename_i hc;have hst:pD ts b i k:=⟨u,hu u (List.mem_cons_self ..),hc.1,hk⟩;obtain⟨g1,g2,g3⟩:=BV ts b f k (M0++[k]) (by have:=PQ (rP hk) hc.2;omega);have hkM:k∈M1:=by rw[<-hM1];exact uS ts b f k _ k (by simp)
       rw[hM1]at g1 g2 g3;refine⟨λj hj=>?_,λk' _ hk'=>?_,λj hj hn k' hs=>?_⟩
       ·rcases g1 j hj with hj|hj
        ·rcases List.mem_append.1 hj with hj|hj
         ·exact .inl hj
         ·simp at hj;subst hj;exact .inr (.one hst)
        ·exact .inr (.head hst hj)
       ·rw[hk]at hk';injection hk' with e;subst e;exact hkM
       ·by_cases e:j=k
        ·subst e;exact g2 k' hs
        ·exact g3 j hj (by simp[hn,e]) k' hs
      ·rename_i hc;subst hM1;refine⟨λj hj=>.inl hj,λk' hb hk'=>?_,λj hj hn=>absurd hj hn⟩;rw[hk]at hk';injection hk' with e;subst e
       exact Classical.byContradiction λhn=>hc ⟨hb,hn⟩
     ·rename_i hk;subst hM1;exact⟨λj hj=>.inl hj,λk' _ hk'=>(by rw[hk]at hk';cases hk'),λj hj hn=>absurd hj hn⟩
    rw[hM1];refine⟨λk hk=>?_,λv hv k hb hk=>?_,λj hj hn k hs=>?_⟩
    ·rcases r1 k hk with h|h
     ·exact hone.1 k h
     ·exact .inr h
    ·rcases List.mem_cons.1 hv with rfl|hv
     ·exact hkeep k (hone.2.1 k hb hk)
     ·exact r2 v hv k hb hk
    ·by_cases hj1:j∈M1
     ·exact hkeep k (hone.2.2 j hj1 hn k hs)
     ·exact r3 j hj hj1 k hs
  obtain⟨h1,h2,h3⟩:=key (aW (ts.getD i default)) M (λu hu=>hu) h;exact⟨h1,λk ⟨u,hu,hb,hk⟩=>h2 u hu k hb hk,h3⟩
theorem uY(ts:List Nd)(b:Int->Bool)(i k:Nat):k∈gJ ts b i↔gZ (pD ts b) i k:=by
 obtain⟨h1,h2,h3⟩:=BV ts b (ts.length+1) i [] (Nat.lt_succ_of_le (Nat.le_trans (List.length_filter_le _ _) (by simp)));constructor
 ·intro h;rcases h1 k h with h|h
  ·cases h
  ·exact h
 ·intro h;induction h with
  |one hs=>exact h2 _ hs
  |more _ hs ih=>exact h3 _ ih (by simp) _ hs
def rW(l:List Df)(c:Bool)(nm s:aJ):Prop:=0<=gR l nm/\∃u∈aW (tAt l nm),cbR c u.bk=true/\u.name=s
structure Vk(l:List Df)(c:Bool)(name:aJ)(n:Nat)(st:List aJ×List aJ):Prop where
 reach:∀s∈st.1,gZ (rW l c) name s
 todo:∀s,s∈st.2↔s=name\/s∈st.1
 done:∀j,j<n->∀nm,st.2[j]? =some nm->∀s,rW l c nm s->s∈st.1
theorem Nw{c:Bool}{st:List aJ×List aJ}{u:bZ}:(∀s∈st.1,s∈(bfsS c st u).1)/\st.2<+:(bfsS c st u).2/\(∀s∈(bfsS c st u).1,s∈st.1\/(cbR c u.bk=true/\s=u.name))/\(cbR c u.bk=true->u.name∈(bfsS c st u).1)/\∀s,s∈(bfsS c st u).2↔s∈st.2\/(s∈(bfsS c st u).1/\s∉st.1):=by
 unfold bfsS;split
 ·rename_i h;refine⟨λs hs=>mem_putS.2 (.inr hs),List.prefix_append _ _,λs hs=>?_,λ_=>mem_putS.2 (.inl rfl),λs=>?_⟩
  ·rcases mem_putS.1 hs with e|hs
   ·exact .inr ⟨h.1,e⟩
   ·exact .inl hs
  ·constructor
   ·intro hs;rcases List.mem_append.1 hs with hs|hs
    ·exact .inl hs
    ·simp at hs;subst hs;exact .inr ⟨mem_putS.2 (.inl rfl),h.2⟩
   ·rintro(hs|⟨hs,hn⟩)
    ·exact List.mem_append_left _ hs
    ·rcases mem_putS.1 hs with e|hs
     ·subst e;simp
     ·exact absurd hs hn
 ·rename_i h;refine⟨λs hs=>hs,List.prefix_refl _,λs hs=>.inl hs,λhc=>?_,λs=>?_⟩
  ·exact Classical.byContradiction λhn=>h ⟨hc,hn⟩
  ·constructor
   ·exact λhs=>.inl hs
   ·rintro(hs|⟨hs,hn⟩)
    ·exact hs
    ·exact absurd hs hn
theorem Hl{U:List aJ}{c:Bool}:∀(us:List bZ) (st:List aJ×List aJ),(∀u∈us,u.name∈U)->BfsJ U st->
 (∀s∈st.1,s∈(us.foldl (bfsS c) st).1)/\st.2<+:(us.foldl (bfsS c) st).2/\(∀s∈(us.foldl (bfsS c) st).1,s∈st.1\/∃u∈us,cbR c u.bk=true/\u.name=s)/\(∀u∈us,cbR c u.bk=true->u.name∈(us.foldl (bfsS c) st).1)/\
   (∀s,s∈(us.foldl (bfsS c) st).2↔s∈st.2\/(s∈(us.foldl (bfsS c) st).1/\s∉st.1))/\BfsJ U (us.foldl (bfsS c) st)/\muS U (us.foldl (bfsS c) st).1+(us.foldl (bfsS c) st).2.length<=muS U st.1+st.2.length
 |[],st,_,hJ=>⟨λs hs=>hs,List.prefix_refl _,λs hs=>.inl hs,by simp,λs=>⟨.inl,λh=>h.elim id λh=>absurd h.1 h.2⟩,hJ,Nat.le_refl _⟩
 |u::r,st,hU,hJ=>by
  obtain⟨a1,a2,a3,a4,a5⟩:=Nw (c:=c) (st:=st) (u:=u);obtain⟨a6,a7⟩:=bfsS_J (c:=c) (hU u (List.mem_cons_self ..)) hJ;obtain⟨b1,b2,b3,b4,b5,b6,b7⟩:=Hl (c:=c) r (bfsS c st u) (λv hv=>hU v (List.mem_cons_of_mem _ hv)) a6;rw[List.foldl_cons];refine⟨λs hs=>b1 s (a1 s hs),a2.trans b2,λs hs=>?_,λv hv hc=>?_,λs=>?_,b6,Nat.le_trans b7 a7⟩
  ·rcases b3 s hs with h|⟨v,hv,hc,e⟩
   ·rcases a3 s h with h|⟨hc,e⟩
    ·exact .inl h
    ·exact .inr ⟨u,List.mem_cons_self ..,hc,e.symm⟩
   ·exact .inr ⟨v,List.mem_cons_of_mem _ hv,hc,e⟩
  ·rcases List.mem_cons.1 hv with rfl|hv
   ·exact b1 _ (a4 hc)
   ·exact b4 v hv hc
  ·rw[b5,a5];constructor
   ·rintro((h|⟨h1,h2⟩)|⟨h1,h2⟩)
    ·exact .inl h
    ·exact .inr ⟨b1 s h1,h2⟩
    ·exact .inr ⟨h1,λh=>h2 (a1 s h)⟩
   ·rintro(h|⟨h1,h2⟩)
    ·exact .inl (.inl h)
    ·by_cases h3:s∈(bfsS c st u).1
     ·exact .inl (.inr ⟨h3,h2⟩)
     ·exact .inr ⟨h1,h3⟩
theorem BW{l:List Df}{c:Bool}{name:aJ}:∀(f n:Nat) (st:List aJ×List aJ),muS (allU l) st.1+st.2.length<f+n->n<=st.2.length->BfsJ (allU l) st->Vk l c name n st->∀s,s∈bfsF l c f n st↔gZ (rW l c) name s
 |0,n,st,h,hn,_,_=>by omega
 |f+1,n,st,h,hn,hJ,hI=>by
  intro s;rw[bfsF];cases q:st.2[n]? with
  |none=>
   have hlen:st.2.length<=n:=List.getElem?_eq_none_iff.1 q;simp only;constructor
   ·exact hI.reach s
   ·have all:∀nm,(nm=name\/nm∈st.1)->∀s,rW l c nm s->s∈st.1:=λnm hm s hs=>by
     obtain⟨j,hj,e⟩:=List.getElem_of_mem ((hI.todo nm).2 hm);exact hI.done j (by omega) nm (by rw[List.getElem?_eq_getElem hj,e]) s hs
    intro hr;induction hr with
    |one hs=>exact all name (.inl rfl) _ hs
    |more _ hs ih=>exact all _ (.inr ih) _ hs
  |some nm=>
   simp only;have hlt:n<st.2.length:=(List.getElem?_eq_some_iff.1 q).1;have hnm:=(hI.todo nm).1 (List.mem_of_getElem? q);unfold bfsN;by_cases hx:gR l nm<0
   ·rw[if_pos hx];refine BW f (n+1) st (by omega) (by omega) hJ ⟨hI.reach,hI.todo,λj hj nm' hj' s hs=>?_⟩ s;by_cases e:j=n
    ·subst e;rw[q]at hj';injection hj' with e;subst e;exact absurd hs.1 (by omega)
    ·exact hI.done j (by omega) nm' hj' s hs
   ·rw[if_neg hx];obtain⟨b1,b2,b3,b4,b5,b6,b7⟩:=Hl (U:=allU l) (c:=c) (aW (tAt l nm)) st (uses_allU (by omega)) hJ;have hpl:=b2.length_le;refine BW f (n+1) _ (by omega) (by omega) b6 ⟨λs hs=>?_,λs=>?_,λj hj nm' hj' s hs=>?_⟩ s
    ·rcases b3 s hs with h|⟨u,hu,hc,e⟩
     ·exact hI.reach s h
     ·have hs':rW l c nm s:=⟨by omega,u,hu,hc,e⟩;rcases hnm with rfl|hnm
      ·exact .one hs'
      ·exact .more (hI.reach nm hnm) hs'
    ·rw[b5,hI.todo];constructor
     ·rintro((h|h)|h)
      ·exact .inl h
      ·exact .inr (b1 s h)
      ·exact .inr h.1
     ·rintro(h|h)
      ·exact .inl (.inl h)
      ·by_cases h2:s∈st.1
       ·exact .inl (.inr h2)
       ·exact .inr ⟨h,h2⟩
    ·by_cases e:j=n
     ·subst e;have hj2:(List.foldl (bfsS c) st (aW (tAt l nm))).2[j]? =some nm:=by
       obtain⟨t,ht⟩:=b2;rw[<-ht,List.getElem?_append_left hlt];exact q
      rw[hj2]at hj';injection hj' with e;subst e
      obtain⟨_,u,hu,hc,e⟩:=hs;rw[<-e];exact b4 u hu hc
     ·have hj3:st.2[j]? =some nm':=by
       obtain⟨t,ht⟩:=b2;rw[<-ht,List.getElem?_append_left (by omega)]at hj';exact hj'
      exact b1 s (hI.done j (by omega) nm' hj3 s hs)
theorem uZ(l:List Df)(c:Bool)(name s:aJ):s∈reachR l name c↔gZ (rW l c) name s:=by
 refine BW ((allU l).length+2) 0 ([],[name]) (by rw[muS_nil];simp) (Nat.zero_le _) ⟨by simp[muS_nil],rfl⟩ ⟨by simp,by simp,λj h=>absurd h (Nat.not_lt_zero _)⟩ s
section
theorem wQ{p q:Nat->Bool}{n:Nat}(h:∀i<n,p i=q i):cQ p n=cQ q n:=by
 unfold cQ;have:∀l:List Nat,(∀i∈l,p i=q i)->l.find? p=l.find? q:=λl=>by
  induction l with
  |nil=>intro _;rfl
  |cons a r ih=>
   intro hl;rw[List.find?_cons,List.find?_cons,hl a (List.mem_cons_self ..),ih λi hi=>hl i (List.mem_cons_of_mem _ hi)]
 exact this _ λi hi=>h i (List.mem_range.1 hi)
theorem wR{l:List Df}(h:(l.map treeD).map Nd.text=l.map Df.name){nm:aJ}{k:Nat}(hk:lB (l.map treeD) nm=some k):∃hl:k<l.length,l[k].name=nm:=by
 rw[atN_find h]at hk;obtain⟨hl,h1,_⟩:=List.findIdx?_eq_some_iff_getElem.1 hk;exact⟨hl,by simpa using h1⟩
theorem rX{l:List Df}(hn:(l.map Df.name).Nodup){i j:Nat}(hi:i<l.length)(hj:j<l.length)(e:l[i].name=l[j].name):i=j:=by
 have:=List.pairwise_iff_getElem.1 hn;rcases Nat.lt_trichotomy i j with h|h|h
 ·exact absurd (by rw[List.getElem_map,List.getElem_map];exact e) (this i j (by simpa using hi) (by simpa using hj) h)
 ·exact h
 ·exact absurd (by rw[List.getElem_map,List.getElem_map];exact e.symm) (this j i (by simpa using hj) (by simpa using hi) h)
theorem Fh{l:List Df}(h:(l.map treeD).map Nd.text=l.map Df.name)(hn:(l.map Df.name).Nodup){i:Nat}(hi:i<l.length):lB (l.map treeD) l[i].name=some i:=by
 cases q:lB (l.map treeD) l[i].name with
 |none=>
  rw[atN_find h,List.findIdx?_eq_none_iff]at q;have:=q l[i] (List.getElem_mem hi);simp at this
 |some j=>
  obtain⟨hj,e⟩:=wR h q;rw[rX hn hj hi e]
theorem Hm(k:Int):cbR true k=BP k:=by simp[cbR,BP]
section
variable{l:List Df} (h:(l.map treeD).map Nd.text=l.map Df.name) (hn:(l.map Df.name).Nodup) (hq:∀i<l.length,q2 l i=false)
include h hn hq
omit hq in
theorem La{b:Int->Bool}{c:Bool}(hb:∀k,cbR c k=b k){i k:Nat}(hi:i<l.length)(hs:pD (l.map treeD) b i k):∃hk:k<l.length,rW l c l[i].name l[k].name:=by
 obtain⟨u,hu,hc,hk⟩:=hs;obtain⟨hkl,e⟩:=wR h hk;have ho:=Fh h hn hi;refine⟨hkl,?_,u,?_,by rw[hb];exact hc,e.symm⟩
 ·rw[idxN_at h,ho];simp[lW]
 ·rw[tAt_at h ho];exact hu
theorem DM{b:Int->Bool}{c:Bool}(hb:∀k,cbR c k=b k){i:Nat}{s:aJ}(hi:i<l.length)(hs:rW l c l[i].name s):∃k,∃hk:k<l.length,s=l[k].name/\pD (l.map treeD) b i k:=by
 obtain⟨_,u,hu,hc,e⟩:=hs;have ho:=Fh h hn hi;rw[tAt_at h ho]at hu;have h2:=hq i hi;have hg:(l.map treeD).getD i default=treeD (l.getD i default):=by
  rw[List.getD_eq_getElem?_getD,List.getD_eq_getElem?_getD,List.getElem?_map,List.getElem?_eq_getElem hi];rfl
 have h3:secondE l (aW (treeD (l.getD i default)))=0:=Classical.byContradiction λhc=>by unfold q2 at h2;exact absurd (decide_eq_true hc) (by unfold treeD;rw[h2];simp)
 rw[<-hg]at h3;have h4:(aW ((l.map treeD).getD i default)).any (p1 l)=false:=by
  rw[Bool.eq_false_iff];intro q;unfold secondE at h3;rw[if_pos q]at h3;cases h3
 have h5:p1 l u=false:=by
  rw[List.any_eq_false]at h4;simpa using h4 u hu
 unfold p1 at h5;rw[idxN_at h]at h5;cases q:lB (l.map treeD) u.name with
 |none=>rw[q]at h5;simp[lW]at h5
 |some k=>
  obtain⟨hk,e2⟩:=wR h q;exact⟨k,hk,by rw[<-e,e2],u,hu,by rw[<-hb];exact hc,q⟩
omit hq in
theorem Ho{b:Int->Bool}{c:Bool}(hb:∀k,cbR c k=b k){i k:Nat}(hi:i<l.length)(hr:gZ (pD (l.map treeD) b) i k):∃hk:k<l.length,gZ (rW l c) l[i].name l[k].name:=by
 induction hr with
 |one hs=>obtain⟨hk,hs'⟩:=La h hn hb hi hs;exact⟨hk,.one hs'⟩
 |more _ hs ih=>
  obtain⟨hj,hr'⟩:=ih;obtain⟨hk,hs'⟩:=La h hn hb hj hs;exact⟨hk,.more hr' hs'⟩
theorem BX{b:Int->Bool}{c:Bool}(hb:∀k,cbR c k=b k){i:Nat}{s:aJ}(hi:i<l.length)(hr:gZ (rW l c) l[i].name s):∃k,∃hk:k<l.length,s=l[k].name/\gZ (pD (l.map treeD) b) i k:=by
 induction hr with
 |one hs=>obtain⟨k,hk,e,hs'⟩:=DM h hn hq hb hi hs;exact⟨k,hk,e,.one hs'⟩
 |more _ hs ih=>
  obtain⟨j,hj,rfl,hr'⟩:=ih;obtain⟨k,hk,e,hs'⟩:=DM h hn hq hb hj hs;exact⟨k,hk,e,.more hr' hs'⟩
theorem TV{i:Nat}(hi:i<l.length):Fa (l.map treeD) i=q3 l i:=by
 have hg:l.getD i default=l[i]:=by rw[List.getD_eq_getElem?_getD,List.getElem?_eq_getElem hi];rfl
 unfold Fa q3;rw[hg,decide_eq_decide,uY,uZ];constructor
 ·intro hr;obtain⟨_,hr'⟩:=Ho h hn Hm hi hr;exact hr'
 ·intro hr;obtain⟨k,hk,e,hr'⟩:=BX h hn hq Hm hi hr;rw[<-rX hn hi hk e]at hr';exact hr'
end
theorem JP(l:List Df):(jK l).2=chkR l:=by
 unfold jK chkR;by_cases h24:24<l.length
 ·have:cR l=([],0,4):=by unfold cR;rw[if_pos h24]
  rw[if_pos h24,this];rfl
 ·rw[if_neg h24];have hf:=readP_first (l:=l) (by omega);unfold chkR1;cases q:cQ (q1 l) l.length with
  |some k=>
   rw[q]at hf;obtain⟨h1,h2⟩:=hf;simp only;rw[if_pos h2,h1]
  |none=>
   rw[q]at hf;simp only at hf|-;have h0:(cR l).2.2=0:=by rw[hf]
   obtain⟨hnm,hnd⟩:=readP_names h0;rw[hf]at hnm;simp only at hnm;rw[if_neg (by rw[h0];simp),hf];simp only[List.length_map];have hb:∀i<l.length,EZ (l.map treeD) i=q2 l i:=λi hi=>by
    have hg:(l.map treeD).getD i default=treeD (l.getD i default):=by
     rw[List.getD_eq_getElem?_getD,List.getD_eq_getElem?_getD,List.getElem?_map,List.getElem?_eq_getElem hi];rfl
    unfold EZ q2;rw[mis_second hnm,hg];rfl
   rw[wQ hb];unfold chkR2;cases q':cQ (q2 l) l.length with
   |some i=>
    simp only;have hi:i<l.length:=by
     unfold cQ at q';exact List.mem_range.1 (List.mem_of_find?_eq_some q')
    have hg:(l.map treeD).getD i default=treeD (l.getD i default):=by
     rw[List.getD_eq_getElem?_getD,List.getD_eq_getElem?_getD,List.getElem?_map,List.getElem?_eq_getElem hi];rfl
    rw[mis_second hnm,hg];rfl
   |none=>
    simp only;have hq:∀i<l.length,q2 l i=false:=λi hi=>by
     unfold cQ at q';rw[List.find?_eq_none]at q';simpa using q' i (List.mem_range.2 hi)
    rw[wQ λi hi=>TV hnm hnd hq hi];unfold chkR3;cases cQ (q3 l) l.length<;>rfl
end
section
attribute[local simp] hZ.cond Nd.d_eq nd_t nd_dr nd_td ndsD aO bA bH us_t us_m us_d bZ.r
def oA(us:List bZ):List aJ:=us.foldl (λM u=>putS M u.name) []
def Fi(l:List Df):Option Nat->List aJ×Int
 |none=>([],6)
 |some i=>if(parseS (l.getD i default).text).2.2≠0 then([],(parseS (l.getD i default).text).2.2)else(oA (aW (parseS (l.getD i default).text).1),0)
def DN(l:List Df)(name:aJ):List aJ×Int:=Fi l (l.findIdx? λd=>decide (d.name=name))
end
section
attribute[local simp] hZ.cond Nd.d_eq nd_t nd_dr nd_td ndsD aO bA bH
def JQ(l:List Df):List aJ:=if(chkR l).2≠0 then []else l.foldl (λM d=>if(parseS d.text).1.kind=6 then putS M d.name else M) []
def Fj(l:List Df):List aJ:=l.foldl (λM d=>if(parseS d.text).1.kind=6 then putS M d.name else M) []
end
section
attribute[local simp] hZ.cond Nd.d_eq nd_t nd_dr nd_td ndsD aO bA bH
def TW(l:List Df)(nm:aJ):Df:=l.getD (gR l nm).toNat default
def rY(l:List Df)(name:aJ):List Df×Int:=
 if(chkR l).2≠0 then([],(chkR l).2)else if gR l name<0 then([],6)else((putS (reachR l name false) name).map (TW l),0)
end
abbrev Ac(a b:aJ):Bool:=Op.bytesLess a b
theorem kZ{out:List aJ}{s:aJ}(h:dR Ac out):dR Ac (putS out s):=by
 unfold putS;split
 ·exact h
 ·rename_i hn;obtain⟨s1,s2⟩:=xX (p:=λy:aJ=>Op.bytesLess s y) (out:=out) out.length (Nat.le_refl _);have hle:=Ey (p:=λy:aJ=>Op.bytesLess s y) (out:=out) out.length;unfold mQ;generalize nW (λy:aJ=>Op.bytesLess s y) out out.length=k at*;have hb:∀a∈out.take k,Ac a s=true:=λa ha=>by
   obtain⟨i,hi,rfl⟩:=List.getElem_of_mem ha;rw[List.getElem_take];rw[List.length_take]at hi;obtain⟨k',rfl⟩:∃k',k=k'+1:=⟨k-1,by omega⟩;have hlt:k'<out.length:=by omega
   have h0:=s2 k' hlt rfl;have h1:Ac out[k'] s=true:=by
    cases q:Ac out[k'] s with
    |true=>rfl
    |false=>exact absurd (aJ.sto.total _ _ h0 q) (λe=>hn (by rw[e];exact List.getElem_mem hlt))
   by_cases e:i=k'
   ·subst e;exact h1
   ·exact aJ.sto.trans _ _ _ (List.pairwise_iff_getElem.1 h i k' (by omega) hlt (by omega)) h1
  have ha:∀b∈out.drop k,Ac s b=true:=λb hb=>by
   obtain⟨i,hi,rfl⟩:=List.getElem_of_mem hb;rw[List.getElem_drop];rw[List.length_drop]at hi;exact s1 (k+i) (by omega) (by omega) (by omega)
  refine List.pairwise_append.2 ⟨h.sublist (List.take_sublist _ _),List.pairwise_cons.2 ⟨ha,h.sublist (List.drop_sublist _ _)⟩,λa ha' b hb'=>?_⟩;rcases List.mem_cons.1 hb' with rfl|hb'
  ·exact hb a ha'
  ·exact aJ.sto.trans _ _ _ (hb a ha') (ha b hb')
theorem wS{l:List aJ}(h:l.Nodup):dR Ac (cX l):=by
 have hp:(cX l).Perm l:=List.mergeSort_perm l _;have hs:(cX l).Nodup:=hp.nodup_iff.2 h;have e:=dedup_nodup hs;rw[<-e];exact lT aJ.sto ((lR l).imp λ{a b} h=>by
  rw[bytesLess_eq,decide_eq_false_iff_not,List.not_lt];exact h)
theorem DO{l:List aJ}{s:aJ}:s∈cX l↔s∈l:=(List.mergeSort_perm l _).mem_iff
theorem rZ(us:List bZ):dR Ac (oA us)/\∀s,s∈oA us↔∃u∈us,u.name=s:=by
 have:∀(us:List bZ) (M:List aJ),dR Ac M->dR Ac (us.foldl (λM u=>putS M u.name) M)/\∀s,s∈us.foldl (λM u=>putS M u.name) M↔s∈M\/∃u∈us,u.name=s:=λus=>by
  induction us with
  |nil=>exact λM h=>⟨h,by simp⟩
  |cons u r ih=>
   intro M h;obtain⟨h1,h2⟩:=ih (putS M u.name) (kZ h);rw[List.foldl_cons];refine⟨h1,λs=>?_⟩;rw[h2,mem_putS];simp only[List.mem_cons,exists_eq_or_imp];constructor
   ·rintro((e|h)|h)
    ·exact .inr (.inl e.symm)
    ·exact .inl h
    ·exact .inr (.inr h)
   ·rintro(h|(e|h))
    ·exact .inl (.inr h)
    ·exact .inl (.inl e.symm)
    ·exact .inr h
 have h:=this us [] List.Pairwise.nil;exact⟨h.1,λs=>by simpa [oA]using h.2 s⟩
theorem Hp(us:List bZ):(dJ us).Nodup/\∀s,s∈dJ us↔∃u∈us,u.name=s:=by
 have:∀(us:List bZ) (M:List aJ),M.Nodup->(us.foldl (λM u=>yF M u.name) M).Nodup/\∀s,s∈us.foldl (λM u=>yF M u.name) M↔s∈M\/∃u∈us,u.name=s:=λus=>by
  induction us with
  |nil=>exact λM h=>⟨h,by simp⟩
  |cons u r ih=>
   intro M h;have ha:(yF M u.name).Nodup/\∀s,s∈yF M u.name↔s∈M\/u.name=s:=by
    unfold yF;split
    ·rename_i hm;exact⟨h,λs=>⟨.inl,λq=>q.elim id λe=>e▸hm⟩⟩
    ·rename_i hm;refine⟨List.nodup_append.2 ⟨h,by simp,λa ha b hb e=>?_⟩,λs=>by simp[eq_comm]⟩;simp at hb;subst hb;subst e;exact hm ha
   obtain⟨h1,h2⟩:=ih (yF M u.name) ha.1;rw[List.foldl_cons];refine⟨h1,λs=>?_⟩;rw[h2,ha.2];simp only[List.mem_cons,exists_eq_or_imp];rw[or_assoc]
 have h:=this us [] List.nodup_nil;exact⟨h.1,λs=>by simpa [dJ]using h.2 s⟩
theorem QE(us:List bZ):cX (dJ us)=oA us:=by
 obtain⟨h1,h2⟩:=Hp us;obtain⟨h3,h4⟩:=rZ us;exact oV aJ.sto (wS h1) h3 λs=>by rw[DO,h2,h4]
theorem Fk(l:List Df)(name:aJ):DL l name=DN l name:=by
 unfold DL DN;cases l.findIdx? (λd=>decide (d.name=name))with
 |none=>rfl
 |some i=>
  simp only[BT,Fi];rw[QE]
theorem nV{l:List Df}(h:(cR l).2.2=0):(cR l).1=l.map treeD:=by
 have h24:=((qG l).2.2 h).1;have hf:=readP_first (l:=l) h24;cases q:cQ (q1 l) l.length with
 |some k=>rw[q]at hf;exact absurd h hf.2
 |none=>rw[q]at hf;rw[hf]
theorem QF{l:List Df}(h:(l.map treeD).map Nd.text=l.map Df.name):∀d∈l,(treeD d).text=d.name:=by
 rw[List.map_map]at h;exact List.map_inj_left.1 h
theorem JR{l:List Df}(h:∀d∈l,(treeD d).text=d.name):fM (l.map treeD)=(l.filter λd=>decide ((treeD d).kind=6)).map Df.name:=by
 induction l with
 |nil=>rfl
 |cons d r ih=>
  have ih:=ih λx hx=>h x (List.mem_cons_of_mem _ hx);have hd:=h d (List.mem_cons_self ..);unfold fM at*;rw[List.map_cons];by_cases hk:(treeD d).kind=6
  ·rw[List.filter_cons_of_pos (by simpa using hk),List.filter_cons_of_pos (by simpa using hk),List.map_cons,List.map_cons,ih,hd]
  ·rw[List.filter_cons_of_neg (by simpa using hk),List.filter_cons_of_neg (by simpa using hk),ih]
theorem Fl(l:List Df):dR Ac (Fj l)/\∀s,s∈Fj l↔∃d∈l,(treeD d).kind=6/\d.name=s:=by
 have:∀(l:List Df) (M:List aJ),dR Ac M->dR Ac (l.foldl (λM d=>if(parseS d.text).1.kind=6 then putS M d.name else M) M)/\∀s,s∈l.foldl (λM d=>if(parseS d.text).1.kind=6 then putS M d.name else M) M↔s∈M\/∃d∈l,(treeD d).kind=6/\d.name=s:=λl=>by
  induction l with
  |nil=>exact λM h=>⟨h,by simp⟩
  |cons d r ih=>
   intro M h;rw[List.foldl_cons];by_cases hk:(parseS d.text).1.kind=6
   ·rw[if_pos hk];obtain⟨h1,h2⟩:=ih (putS M d.name) (kZ h);refine⟨h1,λs=>?_⟩;rw[h2,mem_putS];simp only[List.mem_cons,exists_eq_or_imp];have hk':(treeD d).kind=6:=hk;constructor
    ·rintro((e|h)|h)
     ·exact .inr (.inl ⟨hk',e.symm⟩)
     ·exact .inl h
     ·exact .inr (.inr h)
    ·rintro(h|(⟨_,e⟩|h))
     ·exact .inl (.inr h)
     ·exact .inl (.inl e.symm)
     ·exact .inr h
   ·rw[if_neg hk];obtain⟨h1,h2⟩:=ih M h;refine⟨h1,λs=>?_⟩;rw[h2];simp only[List.mem_cons,exists_eq_or_imp];have hk':¬(treeD d).kind=6:=hk;constructor
    ·rintro(h|h)
     ·exact .inl h
     ·exact .inr (.inr h)
    ·rintro(h|(⟨e,_⟩|h))
     ·exact .inl h
     ·exact absurd e hk'
     ·exact .inr h
 have h:=this l [] List.Pairwise.nil;exact⟨h.1,λs=>by simpa [Fj]using h.2 s⟩
theorem QG(l:List Df):Fd l=JQ l:=by
 unfold Fd JQ;have hc:=JP l;by_cases h:(jK l).2.2=0
 ·have h':(chkR l).2=0:=by rw[<-hc];exact h
  rw[if_neg (by simpa using h),if_neg (by simpa using h')];have hr:=chkP_ok h;obtain⟨hn,hd⟩:=readP_names hr;rw[Fe,nV hr];rw[nV hr]at hn;rw[JR (QF hn)];obtain⟨h3,h4⟩:=Fl l;have hnd:((l.filter λd=>decide ((treeD d).kind=6)).map Df.name).Nodup:=hd.sublist (List.Sublist.map _ List.filter_sublist);refine oV aJ.sto (wS hnd) h3 λs=>?_;rw[DO];refine Iff.trans ?_ (h4 s).symm;simp only[List.mem_map,List.mem_filter,decide_eq_true_eq];constructor
  ·rintro⟨d,⟨h1,h2⟩,e⟩;exact⟨d,h1,h2,e⟩
  ·rintro⟨d,h1,h2,e⟩;exact⟨d,⟨h1,h2⟩,e⟩
 ·have h':(chkR l).2≠0:=by rw[<-hc];exact h
  rw[if_pos h,if_pos h']
theorem DP{p:Nat->Bool}{n i:Nat}(h:cQ p n=some i):i<n/\p i=true:=by
 unfold cQ at h;exact⟨List.mem_range.1 (List.mem_of_find?_eq_some h),List.find?_some h⟩
theorem JS{p:Nat->Bool}{n:Nat}(h:cQ p n=none):∀i<n,p i=false:=λi hi=>by
 unfold cQ at h;rw[List.find?_eq_none]at h;simpa using h i (List.mem_range.2 hi)
theorem SB{l:List Df}(h:(chkR l).2=0):∀i<l.length,q2 l i=false:=by
 unfold chkR at h;split at h
 ·cases h
 ·unfold chkR1 at h;cases a:cQ (q1 l) l.length with
  |some i=>
   rw[a]at h;have:=(DP a).2;unfold q1 at this;exact absurd h (of_decide_eq_true this)
  |none=>
   rw[a]at h;simp only at h;unfold chkR2 at h;cases b:cQ (q2 l) l.length with
   |some i=>
    rw[b]at h;have:=(DP b).2;unfold q2 at this;exact absurd h (of_decide_eq_true this)
   |none=>exact JS b
theorem Hq{c:Bool}{st:List aJ×List aJ}{u:bZ}(h:dR Ac st.1):dR Ac (bfsS c st u).1:=by
 unfold bfsS;split
 ·exact kZ h
 ·exact h
theorem sC{l:List Df}{c:Bool}:∀(f n:Nat) (st:List aJ×List aJ),dR Ac st.1->dR Ac (bfsF l c f n st)
 |0,_,_,h=>h
 |f+1,n,st,h=>by
  rw[bfsF];cases st.2[n]? with
  |none=>exact h
  |some nm=>
   refine sC f (n+1) _ ?_;unfold bfsN;split
   ·exact h
   ·have:∀(us:List bZ) (st:List aJ×List aJ),dR Ac st.1->dR Ac (us.foldl (bfsS c) st).1:=λus=>by
     induction us with
     |nil=>exact λst h=>h
     |cons u r ih=>exact λst h=>ih _ (Hq h)
    exact this _ st h
theorem Cr{L:List aJ}(h:L.Pairwise λa b=>a<=b)(hn:L.Nodup):dR Ac L:=by
 rw[<-dedup_nodup hn];exact lT aJ.sto (h.imp λ{a b} h=>by rw[bytesLess_eq,decide_eq_false_iff_not,List.not_lt];exact h)
theorem SC{l:List Df}(h:(l.map treeD).map Nd.text=l.map Df.name)(hn:(l.map Df.name).Nodup){i:Nat}(hi:i<l.length):TW l l[i].name=l[i]:=by
 unfold TW;rw[idxN_at h,Fh h hn hi];simp only[lW,Int.toNat_natCast];rw[List.getD_eq_getElem?_getD,List.getElem?_eq_getElem hi];rfl
theorem Lb(k:Int):cbR false k=allB k:=by simp[cbR,allB]
theorem BY(l:List Df)(name:aJ):sliceP l name=rY l name:=by
 unfold sliceP rY;have hc:=JP l;by_cases hz:(jK l).2.2=0
 ·have hz':(chkR l).2=0:=by rw[<-hc];exact hz
  rw[if_neg (by simpa using hz),if_neg (by simpa using hz')];have hr:=chkP_ok hz;obtain⟨hn,hd⟩:=readP_names hr;rw[Fe,nV hr];rw[nV hr]at hn;have hq:=SB hz';rw[idxN_at hn];cases ha:lB (l.map treeD) name with
  |none=>simp[lW]
  |some i=>
   obtain⟨hi,rfl⟩:=wR hn ha;rw[if_neg (show¬(lW (some i)<0)by show¬((i:Int)<0);omega)];have hts:(l.map treeD).length=l.length:=by simp
   have hsn:=sliceAt_names (ts:=l.map treeD) (i:=i) hd hts (by rw[hts];exact hi);have hin:=reachI_in (l.map treeD) allB i;have hperm:=sortD_perm (sliceAt l (l.map treeD) i);have hR1:dR Ac ((cM (sliceAt l (l.map treeD) i)).map Df.name):=by
    refine Cr ?_ ((hperm.map Df.name).nodup_iff.2 hsn);rw[List.pairwise_map];exact sortD_sorted _
   have hR2:dR Ac (putS (reachR l l[i].name false) l[i].name):=kZ (sC _ _ _ List.Pairwise.nil);have hmem:∀d∈sliceAt l (l.map treeD) i,∃k,∃hk:k<l.length,d=l[k]/\(k=i\/k∈gJ (l.map treeD) allB i):=λd hdm=>by
    rw[sliceAt_eq]at hdm;obtain⟨k,hk,rfl⟩:=List.mem_map.1 hdm;rcases List.mem_cons.1 hk with rfl|hk
    ·exact⟨k,hi,by rw[List.getD_eq_getElem?_getD,List.getElem?_eq_getElem hi];rfl,.inl rfl⟩
    ·have hk':=(List.mem_filter.1 hk).1;have hkl:k<l.length:=by have:=hin.2 k hk';rwa[hts]at this
     exact⟨k,hkl,by rw[List.getD_eq_getElem?_getD,List.getElem?_eq_getElem hkl];rfl,.inr hk'⟩
   have hnames:(cM (sliceAt l (l.map treeD) i)).map Df.name=putS (reachR l l[i].name false) l[i].name:=by
    refine oV aJ.sto hR1 hR2 λs=>?_;rw[mem_putS,uZ];constructor
    ·intro hs;obtain⟨d,hdm,rfl⟩:=List.mem_map.1 hs;obtain⟨k,hk,rfl,hor⟩:=hmem d (hperm.mem_iff.1 hdm);rcases hor with rfl|hor
     ·exact .inl rfl
     ·obtain⟨_,hr'⟩:=Ho hn hd Lb hi ((uY _ _ _ _).1 hor);exact .inr hr'
    ·intro hs;refine List.mem_map.2 ?_;rcases hs with rfl|hs
     ·exact⟨l[i],hperm.mem_iff.2 (by rw[sliceAt_eq];exact List.mem_map.2 ⟨i,List.mem_cons_self ..,by rw[List.getD_eq_getElem?_getD,List.getElem?_eq_getElem hi];rfl⟩),rfl⟩
     ·obtain⟨k,hk,rfl,hr'⟩:=BX hn hd hq Lb hi hs;refine⟨l[k],hperm.mem_iff.2 ?_,rfl⟩;rw[sliceAt_eq];refine List.mem_map.2 ⟨k,?_,by rw[List.getD_eq_getElem?_getD,List.getElem?_eq_getElem hk];rfl⟩;by_cases e:k=i
      ·subst e;exact List.mem_cons_self ..
      ·exact List.mem_cons_of_mem _ (List.mem_filter.2 ⟨(uY _ _ _ _).2 hr',by simpa using e⟩)
   rw[<-hnames,List.map_map];refine Prod.ext ?_ rfl;show cM (sliceAt l (l.map treeD) i)=_
   conv=>lhs;rw[<-List.map_id (cM (sliceAt l (l.map treeD) i))]
   refine List.map_congr_left λd hdm=>?_;obtain⟨k,hk,rfl,_⟩:=hmem d (hperm.mem_iff.1 hdm);exact(SC hn hd hk).symm
 ·have hz':(chkR l).2≠0:=by rw[<-hc];exact hz
  rw[if_pos hz,if_pos hz',<-hc]
def lI(l:List Df)(c:Bool)(a b:aJ):Prop:=∃d∈l,d.name=a/\∃u∈aW (treeD d),cbR c u.bk=true/\u.name=b
def zP(d:Df):Prop:=(parseS d.text).2.2=0/\(treeD d).text=d.name/\(bP (treeD d)).Nodup
def QH(l:List Df)(u:bZ):Prop:=∃e∈l,e.name=u.name/\(treeD e).kind=u.kind/\(u.kind=1->u.field∈bP (treeD e))
structure dW(l:List Df):Prop where
 len:l.length<=24
 names:(l.map Df.name).Nodup
 fine:∀d∈l,zP d
 uses:∀d∈l,∀u∈aW (treeD d),QH l u
 calls:∀d∈l,¬gZ (lI l true) d.name d.name
theorem kJ{p:Nat->Bool}{n:Nat}:cQ p n=none↔∀i<n,p i=false:=by
 unfold cQ;rw[List.find?_eq_none];constructor
 ·intro h i hi;simpa using h i (List.mem_range.2 hi)
 ·intro h i hi;simpa using h i (List.mem_range.1 hi)
theorem Hr{l:List Df}{nm:aJ}:gR l nm<0↔∀d∈l,d.name≠nm:=by
 unfold gR;rw[jL];cases q:l.findIdx? (λd=>decide (d.name=nm))with
 |none=>
  rw[List.findIdx?_eq_none_iff]at q;exact⟨λ_ d hd=>by simpa using q d hd,λ_=>by simp[lW]⟩
 |some i=>
  obtain⟨hi,h1,_⟩:=List.findIdx?_eq_some_iff_getElem.1 q;refine⟨λh=>?_,λh=>absurd (by simpa using h1) (h l[i] (List.getElem_mem hi))⟩;simp[lW]at h;omega
theorem pE{l:List Df}{nm:aJ}(h:0<=gR l nm):∃i,∃hi:i<l.length,gR l nm=(i:Nat)/\l[i].name=nm/\tAt l nm=treeD l[i]/\∀j,∀hj:j<l.length,j<i->l[j].name≠nm:=by
 obtain⟨i,d,e,hd,ht⟩:=idxN_lt h;obtain⟨hi,hd⟩:=List.getElem?_eq_some_iff.1 hd;unfold gR at e;rw[jL]at e;cases q:l.findIdx? (λd=>decide (d.name=nm))with
 |none=>rw[q]at e;simp[lW]at e
 |some k=>
  obtain⟨hk,h1,h2⟩:=List.findIdx?_eq_some_iff_getElem.1 q;rw[q]at e;have e:k=i:=by simp[lW]at e;omega
  subst e;refine⟨k,hk,?_,by simpa using h1,by rw[ht,<-hd];rfl,λj hj hjk=>by simpa using h2 j hjk⟩;unfold gR;rw[jL,q];rfl
theorem tK{l:List Df}(hn:(l.map Df.name).Nodup){d:Df}(hd:d∈l):0<=gR l d.name/\tAt l d.name=treeD d/\l.getD (gR l d.name).toNat default=d:=by
 have h0:0<=gR l d.name:=by
  by_cases h:gR l d.name<0
  ·exact absurd rfl (Hr.1 h d hd)
  ·omega
 obtain⟨i,hi,e,hnm,ht,_⟩:=pE h0;obtain⟨j,hj,rfl⟩:=List.getElem_of_mem hd;have:=rX hn hi hj hnm;subst this;refine⟨h0,ht,?_⟩;rw[e,Int.toNat_natCast,List.getD_eq_getElem?_getD,List.getElem?_eq_getElem hi];rfl
theorem DQ{l:List Df}(hn:(l.map Df.name).Nodup){c:Bool}{a b:aJ}:rW l c a b↔lI l c a b:=by
 constructor
 ·rintro⟨h0,u,hu,hc,e⟩;obtain⟨i,hi,_,hnm,ht,_⟩:=pE h0;exact⟨l[i],List.getElem_mem hi,hnm,u,by rw[<-ht];exact hu,hc,e⟩
 ·rintro⟨d,hd,rfl,u,hu,hc,e⟩;obtain⟨h0,ht,_⟩:=tK hn hd;exact⟨h0,u,by rw[ht];exact hu,hc,e⟩
theorem gZ.mono{α:Type}{S T:α->α->Prop}(h:∀a b,S a b->T a b){i k:α}(r:gZ S i k):gZ T i k:=by
 induction r with
 |one h2=>exact .one (h _ _ h2)
 |more _ h2 ih=>exact .more ih (h _ _ h2)
theorem vA{l:List Df}(hn:(l.map Df.name).Nodup){c:Bool}{a s:aJ}:s∈reachR l a c↔gZ (lI l c) a s:=by
 rw[uZ];exact⟨gZ.mono λ_ _=>(DQ hn).1,gZ.mono λ_ _=>(DQ hn).2⟩
theorem tL{l:List Df}{i:Nat}(hi:i<l.length):l.getD i default=l[i]:=by
 rw[List.getD_eq_getElem?_getD,List.getElem?_eq_getElem hi];rfl
theorem Hs{l:List Df}:(chkR l).2=0↔l.length<=24/\(∀i<l.length,q1 l i=false)/\(∀i<l.length,q2 l i=false)/\∀i<l.length,q3 l i=false:=by
 unfold chkR;by_cases h24:24<l.length
 ·rw[if_pos h24];exact⟨λh=>by simp at h,λh=>by omega⟩
 rw[if_neg h24];unfold chkR1;cases q:cQ (q1 l) l.length with
 |some i=>
  simp only;have h1:q1 l i=true/\i<l.length:=by
   unfold cQ at q;exact⟨by simpa using List.find?_some q,List.mem_range.1 (List.mem_of_find?_eq_some q)⟩
  refine⟨λh=>?_,λh=>?_⟩
  ·have:=h1.1;unfold q1 at this;exact absurd h (of_decide_eq_true this)
  ·rw[h.2.1 i h1.2]at h1;simp at h1
 |none=>
  simp only;have q:=kJ.1 q;unfold chkR2;cases q':cQ (q2 l) l.length with
  |some i=>
   simp only;have h1:q2 l i=true/\i<l.length:=by
    unfold cQ at q';exact⟨by simpa using List.find?_some q',List.mem_range.1 (List.mem_of_find?_eq_some q')⟩
   refine⟨λh=>?_,λh=>?_⟩
   ·have:=h1.1;unfold q2 at this;exact absurd h (of_decide_eq_true this)
   ·rw[h.2.2.1 i h1.2]at h1;simp at h1
  |none=>
   simp only;have q':=kJ.1 q';unfold chkR3;cases q'':cQ (q3 l) l.length with
   |some i=>
    simp only;have h1:q3 l i=true/\i<l.length:=by
     unfold cQ at q'';exact⟨by simpa using List.find?_some q'',List.mem_range.1 (List.mem_of_find?_eq_some q'')⟩
    refine⟨λh=>by simp at h,λh=>?_⟩;rw[h.2.2.2 i h1.2]at h1;simp at h1
   |none=>
    have q'':=kJ.1 q'';exact⟨λ_=>⟨by omega,q,q',q''⟩,λ_=>rfl⟩
theorem TX{l:List Df}(h:(chkR l).2=0):chkR l=((l.length:Int),0):=by
 obtain⟨h24,h1,h2,h3⟩:=Hs.1 h;unfold chkR chkR1 chkR2 chkR3;rw[if_neg (by omega),kJ.2 h1];simp only;rw[kJ.2 h2];simp only;rw[kJ.2 h3]
theorem TY{l:List Df}:(∀i<l.length,q1 l i=false)↔(l.map Df.name).Nodup/\∀d∈l,zP d:=by
 constructor
 ·intro h;have h':∀i,∀hi:i<l.length,zP l[i]/\¬gR l l[i].name<(i:Int):=λi hi=>by
   have:=h i hi;unfold q1 at this;rw[tL hi,decide_eq_false_iff_not,ne_eq,Decidable.not_not]at this;unfold firstE at this;split at this
   ·exact absurd this ‹_›
   ·split at this
    ·simp at this
    ·split at this
     ·simp at this
     ·split at this
      ·rename_i a b c d;exact⟨⟨Decidable.not_not.1 a,Decidable.not_not.1 b,d⟩,c⟩
      ·simp at this
  refine⟨List.pairwise_iff_getElem.2 λi j hi hj hij=>?_,λd hd=>?_⟩
  ·simp only[List.length_map]at hi hj;rw[List.getElem_map,List.getElem_map];intro e;have hj2:=(h' j hj).2;obtain⟨k,hk,ek,hnm,_,hf⟩:=pE (l:=l) (nm:=l[j].name) (by
    by_cases q:gR l l[j].name<0
    ·exact absurd rfl (Hr.1 q l[j] (List.getElem_mem hj))
    ·omega)
   rw[ek]at hj2;exact hf i hi (by omega) e
  ·obtain⟨i,hi,rfl⟩:=List.getElem_of_mem hd;exact(h' i hi).1
 ·rintro⟨hn,hf⟩ i hi;obtain⟨a,b,d⟩:=hf l[i] (List.getElem_mem hi);unfold q1;rw[tL hi,decide_eq_false_iff_not,ne_eq,Decidable.not_not];unfold firstE;rw[if_neg (by simpa using a),if_neg (by simpa [treeD]using b),if_neg,if_pos (by simpa [treeD]using d)];obtain⟨h0,_,_⟩:=tK hn (List.getElem_mem hi);obtain⟨k,hk,ek,hnm,_,_⟩:=pE h0;rw[ek,rX hn hk hi hnm];omega
theorem DR{l:List Df}(hn:(l.map Df.name).Nodup){u:bZ}:QH l u↔p1 l u=false/\p2 l u=false/\p3 l u=false:=by
 unfold p1 p2 p3;simp only[decide_eq_false_iff_not];constructor
 ·rintro⟨e,he,hnm,hk,hf⟩;obtain⟨h0,ht,_⟩:=tK hn he;rw[hnm]at h0 ht;refine⟨by omega,by rw[ht];simpa using hk,?_⟩;rw[ht];exact λh=>h.2 (hf h.1)
 ·rintro⟨h1,h2,h3⟩;obtain⟨i,hi,_,hnm,ht,_⟩:=pE (l:=l) (nm:=u.name) (by omega);rw[ht]at h2 h3;refine⟨l[i],List.getElem_mem hi,hnm,by simpa using h2,λhk=>?_⟩;exact Classical.byContradiction λhc=>h3 ⟨hk,hc⟩
theorem zQ{l:List Df}(hn:(l.map Df.name).Nodup){us:List bZ}:secondE l us=0↔∀u∈us,QH l u:=by
 unfold secondE;constructor
 ·intro h u hu;split at h
  ·simp at h
  ·split at h
   ·simp at h
   ·split at h
    ·simp at h
    ·rename_i a b c;simp only[List.any_eq_true,not_exists,not_and,Bool.not_eq_true]at a b c;exact(DR hn).2 ⟨a u hu,b u hu,c u hu⟩
 ·intro h;rw[if_neg,if_neg,if_neg]<;>(simp only[List.any_eq_true,not_exists,not_and,Bool.not_eq_true];intro u hu;have:=(DR hn).1 (h u hu);simp[this])
theorem vB{l:List Df}:(chkR l).2=0↔dW l:=by
 rw[Hs,TY];constructor
 ·rintro⟨h0,⟨hn,hf⟩,h2,h3⟩;refine⟨h0,hn,hf,λd hd=>?_,λd hd=>?_⟩
  ·obtain⟨i,hi,rfl⟩:=List.getElem_of_mem hd;have:=h2 i hi;unfold q2 at this;rw[tL hi,decide_eq_false_iff_not,ne_eq,Decidable.not_not]at this;exact(zQ hn).1 this
  ·obtain⟨i,hi,rfl⟩:=List.getElem_of_mem hd;have:=h3 i hi;unfold q3 at this;rw[tL hi,decide_eq_false_iff_not,vA hn]at this;exact this
 ·rintro⟨h0,hn,hf,hu,hc⟩;refine⟨h0,⟨hn,hf⟩,λi hi=>?_,λi hi=>?_⟩
  ·unfold q2;rw[tL hi,decide_eq_false_iff_not,ne_eq,Decidable.not_not];exact(zQ hn).2 (hu _ (List.getElem_mem hi))
  ·unfold q3;rw[tL hi,decide_eq_false_iff_not,vA hn];exact hc _ (List.getElem_mem hi)
theorem dW.perm{a b:List Df}(h:dW a)(p:a.Perm b):dW b:=by
 have hm:∀d,d∈b↔d∈a:=λd=>p.symm.mem_iff;refine⟨by rw[<-p.length_eq];exact h.len,(p.map _).nodup_iff.1 h.names,λd hd=>h.fine d ((hm d).1 hd),λd hd u hu=>?_,λd hd hr=>?_⟩
 ·obtain⟨e,he,r⟩:=h.uses d ((hm d).1 hd) u hu;exact⟨e,(hm e).2 he,r⟩
 ·refine h.calls d ((hm d).1 hd) (hr.mono ?_);rintro x y ⟨e,he,r⟩;exact⟨e,(hm e).1 he,r⟩
theorem Nx{l:List Df}(h:∀d∈l,∀u∈aW (treeD d),u.bk=14->∀e∈l,e.name=u.name->∀v∈aW (treeD e),v.bk≠14){a:aJ}:¬gZ (lI l true) a a:=by
 intro hr;have key:∀x y,gZ (lI l true) x y->∀z,¬lI l true y z:=by
  intro x y hxy;have hl:∃d∈l,∃u∈aW (treeD d),u.bk=14/\u.name=y:=by
   cases hxy with
   |one h2=>obtain⟨d,hd,_,u,hu,hc,e⟩:=h2;exact⟨d,hd,u,hu,by simpa [cbR]using hc,e⟩
   |more _ h2=>obtain⟨d,hd,_,u,hu,hc,e⟩:=h2;exact⟨d,hd,u,hu,by simpa [cbR]using hc,e⟩
  obtain⟨d,hd,u,hu,hc,e⟩:=hl;rintro z ⟨e2,he2,hn2,v,hv,hvc,_⟩;exact h d hd u hu hc e2 he2 (by rw[hn2,e]) v hv (by simpa [cbR]using hvc)
 have:∃z,lI l true a z:=by
  have:∀x y,gZ (lI l true) x y->∃z,lI l true x z:=by
   intro x y hxy;induction hxy with
   |one h2=>exact⟨_,h2⟩
   |more _ _ ih=>exact ih
  exact this _ _ hr
 obtain⟨z,hz⟩:=this;exact key _ _ hr z hz
theorem Cs(l:List Df)(nm:aJ)(c:Bool):dR Ac (reachR l nm c):=sC _ _ _ List.Pairwise.nil
def jM(l:List Df)(nm:aJ):List aJ:=putS (reachR l nm false) nm
theorem oB(l:List Df)(nm:aJ):dR Ac (jM l nm):=kZ (Cs l nm false)
def pF(l:List Df)(nm s:aJ):Prop:=s=nm\/gZ (lI l false) nm s
theorem fN{l:List Df}(hn:(l.map Df.name).Nodup){nm s:aJ}:s∈jM l nm↔pF l nm s:=by
 unfold jM pF;rw[mem_putS,vA hn]
theorem wT{l:List Df}(hn:(l.map Df.name).Nodup){d:Df}(hd:d∈l):TW l d.name=d:=(tK hn hd).2.2
theorem gZ.trans{α:Type}{S:α->α->Prop}{i j k:α}(h:gZ S i j)(r:gZ S j k):gZ S i k:=by
 induction r with
 |one h2=>exact .more h h2
 |more _ h2 ih=>exact .more ih h2
theorem pF.trans{l:List Df}{a b c:aJ}(h:pF l a b)(r:pF l b c):pF l a c:=by
 rcases r with rfl|r
 ·exact h
 ·rcases h with rfl|h
  ·exact .inr r
  ·exact .inr (h.trans r)
theorem pF.use{l:List Df}{a:aJ}{d:Df}(h:pF l a d.name)(hd:d∈l){u:bZ}(hu:u∈aW (treeD d)):pF l a u.name:=
 h.trans (.inr (.one ⟨d,hd,rfl,u,hu,by simp[cbR],rfl⟩))
theorem BZ{l:List Df}(h:dW l){d:Df}(hd:d∈l){s:aJ}(hr:pF l d.name s):∃e∈l,e.name=s:=by
 rcases hr with rfl|hr
 ·exact⟨d,hd,rfl⟩
 ·have:∃a,lI l false a s:=by cases hr with|one h2=>exact⟨_,h2⟩|more _ h2=>exact⟨_,h2⟩
  obtain⟨_,d',hd',_,u,hu,_,e⟩:=this;obtain⟨x,hx,hn,_⟩:=h.uses d' hd' u hu;exact⟨x,hx,by rw[hn,e]⟩
def eJ(l:List Df)(nm:aJ):List Df:=(jM l nm).map (TW l)
theorem Lc{l:List Df}(h:dW l){d:Df}(hd:d∈l):rY l d.name=(eJ l d.name,0):=by
 unfold rY;rw[if_neg (by simpa using vB.2 h),if_neg (by have:=(tK h.names hd).1;omega)];rfl
theorem QI{l:List Df}{nm:aJ}(h:(rY l nm).2=0):dW l/\∃d∈l,d.name=nm:=by
 unfold rY at h;split at h
 ·exact absurd h ‹_›
 ·rename_i hz;split at h
  ·simp at h
  ·rename_i hi;refine⟨vB.1 (Decidable.not_not.1 hz),?_⟩;obtain⟨i,hil,_,hnm,_⟩:=pE (l:=l) (nm:=nm) (by omega);exact⟨l[i],List.getElem_mem hil,hnm⟩
theorem eD{l:List Df}(h:dW l){d:Df}(hd:d∈l){x:Df}:x∈eJ l d.name↔x∈l/\pF l d.name x.name:=by
 unfold eJ;rw[List.mem_map];constructor
 ·rintro⟨s,hs,rfl⟩;rw[fN h.names]at hs;obtain⟨e,he,rfl⟩:=BZ h hd hs;rw[wT h.names he];exact⟨he,hs⟩
 ·rintro⟨hx,hr⟩;exact⟨x.name,(fN h.names).2 hr,wT h.names hx⟩
theorem wU{l:List Df}(h:dW l){d:Df}(hd:d∈l):(eJ l d.name).map Df.name=jM l d.name:=by
 unfold eJ;rw[List.map_map];have:∀L:List aJ,(∀s∈L,s∈jM l d.name)->L.map (Df.name∘TW l)=L:=λL=>by
  induction L with
  |nil=>intro _;rfl
  |cons s r ih=>
   intro hL;obtain⟨e,he,rfl⟩:=BZ h hd ((fN h.names).1 (hL s (List.mem_cons_self ..)));rw[List.map_cons,ih λs hs=>hL s (List.mem_cons_of_mem _ hs)];show(TW l e.name).name::r=_;rw[wT h.names he]
 exact this _ λs hs=>hs
theorem Fm(l:List Df)(nm:aJ):(jM l nm).Nodup:=(oB l nm).imp λ{a b} hab e=>by subst e;have:=aJ.sto.irrefl a;rw[show Ac a a=Op.bytesLess a a from rfl]at hab;rw[this]at hab;cases hab
theorem zR{l:List Df}(h:dW l){d:Df}(hd:d∈l):((eJ l d.name).map Df.name).Nodup:=by
 rw[wU h hd];exact Fm l d.name
theorem yG:∀{l m:List aJ},l.Nodup->(∀x∈l,x∈m)->l.length<=m.length
 |[],_,_,_=>Nat.zero_le _
 |a::l,m,h,hs=>by
  simp only[List.nodup_cons]at h;have:=yG (l:=l) (m:=m.erase a) h.2 λx hx=>(List.mem_erase_of_ne (λe=>h.1 (by rw[<-e];exact hx))).2 (hs x (List.mem_cons_of_mem _ hx));have h2:=List.length_erase_of_mem (hs a (List.mem_cons_self ..));have h3:0<m.length:=List.length_pos_of_mem (hs a (List.mem_cons_self ..));simp only[List.length_cons];omega
theorem Ca{l:List Df}(h:dW l){d:Df}(hd:d∈l):(eJ l d.name).length<=l.length:=by
 have:=yG (zR h hd) (m:=l.map Df.name) λs hs=>by
  obtain⟨x,hx,rfl⟩:=List.mem_map.1 hs;exact List.mem_map.2 ⟨x,((eD h hd).1 hx).1,rfl⟩
 simpa using this
theorem wV{l:List Df}(h:dW l){d:Df}(hd:d∈l):dW (eJ l d.name):=by
 refine⟨Nat.le_trans (Ca h hd) h.len,zR h hd,λx hx=>h.fine x ((eD h hd).1 hx).1,λx hx u hu=>?_,λx hx hr=>?_⟩
 ·obtain⟨hxl,hxr⟩:=(eD h hd).1 hx;obtain⟨e,he,hn,r⟩:=h.uses x hxl u hu;exact⟨e,(eD h hd).2 ⟨he,by rw[hn];exact hxr.use hxl hu⟩,hn,r⟩
 ·refine h.calls x ((eD h hd).1 hx).1 (hr.mono ?_);rintro a b ⟨e,he,r⟩;exact⟨e,((eD h hd).1 he).1,r⟩
theorem JT{l m:List Df}{nm:aJ}(hS:∀e,pF l nm e.name->(e∈l↔e∈m))(s:aJ):pF l nm s↔pF m nm s:=by
 constructor
 ·rintro(rfl|hr)
  ·exact .inl rfl
  ·right;have key:∀a b,gZ (lI l false) a b->a=nm->gZ (lI m false) nm b/\gZ (lI l false) nm b:=by
    intro a b r;induction r with
    |one h2=>
     rintro rfl;obtain⟨e,he,hn,r⟩:=h2;exact⟨.one ⟨e,(hS e (.inl hn)).1 he,hn,r⟩,.one ⟨e,he,hn,r⟩⟩
    |more _ h2 ih=>
     intro ha;obtain⟨i1,i2⟩:=ih ha;obtain⟨e,he,hn,r⟩:=h2;exact⟨.more i1 ⟨e,(hS e (by rw[hn];exact .inr i2)).1 he,hn,r⟩,.more i2 ⟨e,he,hn,r⟩⟩
   exact(key _ _ hr rfl).1
 ·rintro(rfl|hr)
  ·exact .inl rfl
  ·right;have key:∀a b,gZ (lI m false) a b->a=nm->gZ (lI l false) nm b:=by
    intro a b r;induction r with
    |one h2=>
     rintro rfl;obtain⟨e,he,hn,r⟩:=h2;exact .one ⟨e,(hS e (.inl hn)).2 he,hn,r⟩
    |more _ h2 ih=>
     intro ha;have i2:=ih ha;obtain⟨e,he,hn,r⟩:=h2;exact .more i2 ⟨e,(hS e (by rw[hn];exact .inr i2)).2 he,hn,r⟩
   exact key _ _ hr rfl
theorem Cb{l m:List Df}(hl:dW l)(hm:dW m){d:Df}(hd:d∈l)(hS:∀e,pF l d.name e.name->(e∈l↔e∈m)):eJ m d.name=eJ l d.name:=by
 have hN:jM m d.name=jM l d.name:=oV aJ.sto (oB _ _) (oB _ _) λs=>by rw[fN hm.names,fN hl.names];exact(JT hS s).symm
 unfold eJ;rw[hN];refine List.map_congr_left λs hs=>?_;obtain⟨e,he,rfl⟩:=BZ hl hd ((fN hl.names).1 hs);rw[wT hl.names he,wT hm.names ((hS e ((fN hl.names).1 hs)).1 he)]
theorem QJ{l:List Df}(h:dW l){d x:Df}(hd:d∈l)(hx:x∈eJ l d.name):eJ (eJ l d.name) x.name=eJ l x.name:=by
 obtain⟨hxl,hxr⟩:=(eD h hd).1 hx;exact Cb h (wV h hd) hxl λe he=>⟨λq=>(eD h hd).2 ⟨q,hxr.trans he⟩,λq=>((eD h hd).1 q).1⟩
theorem Ny{l:List Df}(h:dW l){d:Df}(hd:d∈l){k:Nat}(hk:k<l.length)(hm:dW (l.eraseIdx k))(ho:l[k].name∉jM l d.name):eJ (l.eraseIdx k) d.name=eJ l d.name:=by
 refine Cb h hm hd λe he=>⟨λq=>?_,λq=>List.mem_of_mem_eraseIdx q⟩;obtain⟨j,hj,rfl⟩:=List.getElem_of_mem q;refine List.mem_eraseIdx_iff_getElem.2 ⟨j,hj,λe2=>ho ?_,rfl⟩;subst e2;exact(fN h.names).2 he
theorem TZ{l:List Df}(h:dW l){x:Df}(hx:x∈l):DN l x.name=(oA (aW (treeD x)),0):=by
 obtain⟨h0,ht,hd⟩:=tK h.names hx;unfold DN;unfold gR at h0 hd;rw[jL]at h0 hd;cases q:l.findIdx? (λd=>decide (d.name=x.name))with
 |none=>rw[q]at h0;simp[lW]at h0
 |some i=>
  rw[q]at hd;simp only[lW,Int.toNat_natCast]at hd;unfold Fi;simp only[hd];rw[if_neg (by simpa using(h.fine x hx).1)];rfl
theorem QK{l:List Df}(h:dW l){d x:Df}(hd:d∈l)(hx:x∈eJ l d.name){s:aJ}(hs:s∈oA (aW (treeD x))):s∈jM l d.name:=by
 obtain⟨hxl,hxr⟩:=(eD h hd).1 hx;obtain⟨u,hu,rfl⟩:=((rZ _).2 s).1 hs;exact(fN h.names).2 (hxr.use hxl hu)
theorem Ua{l:List Df}(d:Df):d.name∈jM l d.name:=by unfold jM;exact mem_putS.2 (.inl rfl)
section
attribute[local simp] hZ.cond Nd.d_eq nd_t nd_dr nd_td ndsD aO bA bH
theorem qM(n:Int)(h1: -999<=n)(h2:n<=999):Ok Tryz.prog 57 [aH n] ⟨.d (.str (itoaS n)),true⟩:=by
 refine bF Tryz.func57 rfl Tryz.ntmps57 Tryz.results57 λw0 X hp=>?_;refine aA ?_;simp;refine aX hT hW (λ|4=>some<| .plain ⟨.d (.str (itoaS n)),true⟩|_=>none) ?_;simp;refine⟨GL n h1 h2,?_⟩;refine aF ?_;simp
def Nz(word letter:aJ)(i:Int)(text:aJ):Df:=⟨letter++itoaS i,word++[32]++(letter++itoaS i)++text⟩
theorem QL(word letter:aJ)(i:Int)(text:aJ)(h1: -999<=i)(h2:i<=999)(hi:(itoaS i).length<=1000)(hw:word.length<=1000)(hle:letter.length<=1000)(ht:text.length<=1000000):Ok Tryz.prog 142 [.str word,.str letter,aH i,.str text] ⟨.d (Nz word letter i text).d,false⟩:=by
 refine Uy Tryz.func142 rfl Tryz.ntmps142 Tryz.results142 λw0 X hp=>?_;refine aA ?_;simp;refine aX hT hW (λ|12=>some<| .plain ⟨.d (.str (itoaS i)),true⟩|_=>none) ?_;simp;refine⟨⟨qM i h1 h2,by omega⟩,?_⟩;refine aA ?_;simp;refine⟨⟨⟨by omega,by omega⟩,by omega⟩,?_⟩;refine aF ?_;simp[Nz,Df.d]
def nB(n:Nat)(b:Int)(i:Nat):Nat:=let k:=(i+(iH b (n:Int)).toNat)%n;if b.tmod 2≠0 then n-1-k else k
def lA(l:List Df)(b:Int):List Df:=(List.range l.length).map λi=>l.getD (nB l.length b i) default
theorem JU(l:List Df)(b:Int)(hl:l.length<=1000000)(h1: -9223372036854775808<=b)(h2:b<=9223372036854775807):Ok Tryz.prog 55 [eC l,aH b] ⟨.own 2 ((lA l b).map Df.d),true⟩:=by
 refine bF Tryz.func55 rfl Tryz.ntmps55 Tryz.results55 λw0 X hp=>?_;have htl:(lA l b).length=l.length:=by simp[lA]
 refine aA ?_;simp;refine aA ?_;simp;refine aD ?_;refine aA ?_;simp;refine aL ?_;refine aS (ι:=Nat) (λi=>aQ [(0,.d (eC l)),(1,.d (aH b)),(5,.ow 5 0 i),(6,.d (aH (i:Nat)))]) (λi=>aG [(5,.row false 2 (((lA l b).take i).map Df.d))]) (λi=>i<=l.length) (λi=>l.length-i) 0 (aB hp [0,1,5,6] [(5,5)]) (Nat.zero_le _) λi hi3=>?_;refine aD ?_;refine aA ?_;simp;refine aC ?_;simp;refine⟨λh3=>?_,λh3=>?_⟩
 ·refine aE ?_;simp;refine aD ?_;refine aL ?_;refine aD ?_;have hi:i<l.length:=by omega
  have ka:=xL b (l.length:Int) h1 h2 (by omega);have kl:=sS b (l.length:Int) (by omega);obtain⟨m,hm⟩:∃m:Nat,iH b (l.length:Int)=(m:Int):=⟨(iH b (l.length:Int)).toNat,by omega⟩;rw[hm]at ka kl;have hmod:((i:Int)+(m:Int)).tmod (l.length:Int)=(((i+m)%l.length:Nat):Int):=by rw[<-Int.natCast_add];rfl
  have hne:l≠[]:=λe=>by rw[e]at hi;simp at hi
  have hkl:(i+m)%l.length<l.length:=Nat.mod_lt _ (by omega);obtain⟨k,hk⟩:∃k,(i+m)%l.length=k:=⟨_,rfl⟩;rw[hk]at hmod hkl;have hti:nB l.length b i=if b.tmod 2≠0 then l.length-1-k else k:=by unfold nB;rw[hm];simp only[Int.toNat_natCast,hk]
  refine eO.ro hT hW (λ|18=>some<| .plain ⟨.d (aH (m:Int)),true⟩|_=>none) ?_;simp[hmod];refine⟨⟨⟨by simpa using ka,by omega,by omega⟩,hne⟩,?_⟩;refine aZ (ι:=Unit) (λw=>aQ [(0,.d (eC l)),(1,.d (aH b)),(5,.ow 5 0 i),(6,.d (aH (i:Nat))),(7,.d (aH ((nB l.length b i:Nat):Int)))]) (λw=>aG [(5,.row false 2 (((lA l b).take i).map Df.d))]) (λw=>True) ?_ λw hc8=>?_
  ·refine aA ?_;simp;refine aC ?_;simp;refine⟨λh6=>?_,λh6=>?_⟩
   ·have ht:nB l.length b i=l.length-1-k:=(by rw[hti,if_pos h6]);refine aM ?_;simp;refine⟨⟨by omega,by omega⟩,?_⟩;exact(aB hp [0,1,5,6,7] [(5,5)] (by simp[ht,show(l.length:Int)- 1-(k:Int)=((l.length-1-k:Nat):Int)by omega]))
   ·have ht:nB l.length b i=k:=by rw[hti,if_neg (by simpa using h6)]
    refine aE ?_;simp;exact(aB hp [0,1,5,6,7] [(5,5)] (by simp[ht]))
  ·have htn:nB l.length b i<l.length:=by rw[hti];split<;>omega
   obtain⟨x,hx⟩:∃x,l[nB l.length b i]=x:=⟨_,rfl⟩;have hns:(lA l b).take (i+1)=(lA l b).take i++[x]:=by
    rw[List.take_succ_eq_append_getElem (by omega)];simp[lA,List.getElem?_eq_getElem htn,hx]
   have hnd:List.take (i+1) (List.map Df.d (lA l b))=List.take i (List.map Df.d (lA l b))++[x.d]:=(by rw[<-List.map_take,hns,List.map_append,List.map_take];rfl);refine aM ?_;simp[htn,hx];refine⟨⟨by omega,by omega⟩,?_⟩;refine aM ?_;simp;refine⟨by omega,?_⟩;refine Ks.mk (i+1) (aB hp [0,1,5,6] [(37,5)] (hH:=by simp[hnd,List.take_take,Df.d])) ?_ ?_
   ·omega
   ·omega
 ·refine bT ?_;simp;refine aA ?_;simp;refine aF ?_;have e:i=l.length:=by omega
  have htk:List.take l.length (List.map Df.d (lA l b))=List.map Df.d (lA l b):=List.take_of_length_le (by rw[List.length_map,htl];exact Nat.le_refl _);simp[e,htl,htk]
end
structure R3 where
 w:aJ
 l:aJ
 t:aJ
def R3.d(r:R3):DV:=.agg [.str r.w,.str r.l,.str r.t]
def NL(i:Nat)(rows:List R3):List Df:=rows.map λr=>Nz r.w r.l (i:Int) (jF r.t i)
def QM:List aJ:=[[120,35,32,61,61,32,50],[49,32,60,61,32,120,35],[120,35,32,60,32,50],[120,35,32,61,61,32,51]]
def Cc:List aJ:=[[97,99,113,117,105,114,101,32,97,35,59,32,97,99,113,117,105,114,101,32,98,35,59,32,114,101,108,101,97,115,101,32,98,35,59,32,114,101,108,101,97,115,101,32,97,35,59],[97,99,113,117,105,114,101,32,98,35,59,32,97,99,113,117,105,114,101,32,97,35,59,32,114,101,108,101,97,115,101,32,97,35,59,32,114,101,108,101,97,115,101,32,98,35,59]]
def QN:List aJ:=[[36,97,32,60,32,36,98],[36,98,32,60,32,36,97]]
def Ht:List aJ:=[[36,97,32,61,61,32,36,98],[36,97,32,43,32,36,98,32,60,32,51]]
def Cd:List aJ:=[[],[32,119,114,105,116,101,32,102,35,32,55,59]]
def Hu:List aJ:=[[32,123,32,99,104,101,99,107,32,115,104,97,114,101,100,32,61,61,32,48,59,32,115,104,97,114,101,100,32,61,32,49,59,32,125],[32,123,32,115,104,97,114,101,100,32,61,32,115,104,97,114,101,100,32,43,32,49,59,32,99,104,101,99,107,32,115,104,97,114,101,100,32,60,32,50,59,32,125]]
def Hv:List aJ:=[[49],[36,97,32,61,61,32,48]]
def qH(v:Nat):aJ:=QM.getD (v / 2%4) []
def fU(v:Nat):aJ:=Cc.getD (v%2) []
def qP(v:Nat):aJ:=QN.getD (v / 2%2) []
def jU(v:Nat):aJ:=Ht.getD (v / 2%2) []
def fV(v:Nat):aJ:=Cd.getD (v%2) []
def jV(v:Nat):aJ:=Hu.getD (v%2) []
def jW(v:Nat):aJ:=Hv.getD (v / 9%2) []
def bS(v:Nat):Nat->List R3
 |0=>[⟨[118,97,114],[120],[32,61,32]++itoaS ((v%2:Nat):Int)++[59]⟩,⟨[99,104,97,110],[99],[32,49,59]⟩,⟨[112,114,111,99],[112],[32,123,32,120,35,32,61,32,120,35,32,43,32,49,59,32,115,101,110,100,32,99,35,32,49,59,32,125]⟩,⟨[116,101,115,116],[116],[32,123,32,103,111,32,112,35,59,32,120,35,32,61,32,120,35,32,43,32,49,59,32,114,101,99,118,32,99,35,32,36,97,59,32,99,104,101,99,107,32]++qH v++[59,32,125]⟩]
 |1=>[⟨[118,97,114],[120],[32,61,32]++itoaS ((v%2:Nat):Int)++[59]⟩,⟨[108,111,99,107],[109],[59]⟩,⟨[99,104,97,110],[99],[32,49,59]⟩,⟨[112,114,111,99],[112],[32,123,32,97,99,113,117,105,114,101,32,109,35,59,32,120,35,32,61,32,120,35,32,43,32,49,59,32,114,101,108,101,97,115,101,32,109,35,59,32,115,101,110,100,32,99,35,32,49,59,32,125]⟩,⟨[116,101,115,116],[116],[32,123,32,103,111,32,112,35,59,32,97,99,113,117,105,114,101,32,109,35,59,32,120,35,32,61,32,120,35,32,43,32,49,59,32,114,101,108,101,97,115,101,32,109,35,59,32,114,101,99,118,32,99,35,32,36,97,59,32,99,104,101,99,107,32]++qH v++[59,32,125]⟩]
 |2=>[⟨[99,104,97,110],[113],[32]++itoaS ((1+v%2:Nat):Int)++[59]⟩,⟨[112,114,111,99],[112],[32,123,32,115,101,110,100,32,113,35,32,49,59,32,115,101,110,100,32,113,35,32,50,59,32,125]⟩,⟨[116,101,115,116],[116],[32,123,32,103,111,32,112,35,59,32,114,101,99,118,32,113,35,32,36,97,59,32,114,101,99,118,32,113,35,32,36,98,59,32,99,104,101,99,107,32]++qP v++[59,32,125]⟩]
 |3=>[⟨[99,104,97,110],[114],[32,48,59]⟩,⟨[99,104,97,110],[99],[32,49,59]⟩,⟨[118,97,114],[120],[32,61,32,48,59]⟩,⟨[112,114,111,99],[112],[32,123,32,114,101,99,118,32,114,35,32,36,118,59,32,120,35,32,61,32,49,59,32,115,101,110,100,32,99,35,32,49,59,32,125]⟩,⟨[112,114,111,99],[111],[32,123,32,114,101,99,118,32,114,35,32,36,118,59,32,120,35,32,61,32,50,59,32,115,101,110,100,32,99,35,32,49,59,32,125]⟩,⟨[116,101,115,116],[116],[32,123,32,103,111,32,112,35,59,32,103,111,32,111,35,59,32,115,101,110,100,32,114,35,32,53,59,32,114,101,99,118,32,99,35,32,36,97,59,32,99,104,101,99,107,32,120,35,32,61,61,32]++itoaS ((1+v%2:Nat):Int)++[59,32,125]⟩]
 |4=>[⟨[108,111,99,107],[97],[59]⟩,⟨[108,111,99,107],[98],[59]⟩,⟨[99,104,97,110],[99],[32,49,59]⟩,⟨[112,114,111,99],[112],[32,123,32,97,99,113,117,105,114,101,32,98,35,59,32,97,99,113,117,105,114,101,32,97,35,59,32,114,101,108,101,97,115,101,32,97,35,59,32,114,101,108,101,97,115,101,32,98,35,59,32,115,101,110,100,32,99,35,32,49,59,32,125]⟩,⟨[116,101,115,116],[116],[32,123,32,103,111,32,112,35,59,32]++fU v++[32,114,101,99,118,32,99,35,32,36,120,59,32,125]⟩]
 |5=>[⟨[99,104,97,110],[99],[32,49,59]⟩,⟨[112,114,111,99],[112],[32,123,32,100,114,97,119,32,36,97,32]++itoaS ((2+v%2:Nat):Int)++[59,32,115,101,110,100,32,99,35,32,36,97,59,32,125]⟩,⟨[116,101,115,116],[116],[32,123,32,103,111,32,112,35,59,32,100,114,97,119,32,36,98,32,50,59,32,114,101,99,118,32,99,35,32,36,97,59,32,99,104,101,99,107,32]++jU v++[59,32,125]⟩]
 |6=>[⟨[116,101,115,116],[116],[32,123,32,100,114,97,119,32,36,97,32,51,59,32,100,114,97,119,32,36,98,32,50,59,32,99,104,101,99,107,32,36,97,32,42,32,36,98,32,60,32]++itoaS ((1+v%3:Nat):Int)++[59,32,125]⟩]
 |7=>[⟨[116,101,115,116],[116],[32,123,32,110,111,119,32,36,97,59,32,115,108,101,101,112,32,50,59,32,110,111,119,32,36,98,59,32,99,104,101,99,107,32,36,98,32,45,32,36,97,32,60,32]++itoaS ((3+v%3:Nat):Int)++[59,32,125]⟩]
 |8=>[⟨[102,105,108,101],[102],[59]⟩,⟨[116,101,115,116],[116],[32,123,32,119,114,105,116,101,32,102,35,32,55,59]++fV v++[32,114,101,97,100,32,102,35,32,36,97,59,32,99,104,101,99,107,32,36,97,32,61,61,32,55,59,32,125]⟩]
 |9=>[⟨[116,101,115,116],[116],jV v⟩]
 |10=>[⟨[118,97,114],[120],[32,61,32,48,59]⟩,⟨[116,101,115,116],[116],[32,123,32,119,104,105,108,101,32,36,105,32,60,32]++itoaS ((1+v%3:Nat):Int)++[32,123,32,120,35,32,61,32,120,35,32,43,32,49,59,32,36,105,32,61,32,36,105,32,43,32,49,59,32,125,32,99,104,101,99,107,32,120,35,32,61,61,32,50,59,32,125]⟩]
 |11=>[⟨[116,101,115,116],[116],[32,123,32,105,102,32,107,105,110,100,32,61,61,32]++itoaS ((v%3:Nat):Int)++[32,123,32,100,114,97,119,32,36,97,32,50,59,32,99,104,101,99,107,32,36,97,32,61,61,32,48,59,32,125,32,125]⟩]
 |12=>[⟨[114,101,99],[103],[32,123,32,97,32,61,32,49,59,32,98,32,61,32,50,59,32,125]⟩,⟨[112,114,111,99],[104],[32,123,32,103,35,46,97,32,61,32,103,35,46,98,32,43,32,49,59,32,125]⟩,⟨[116,101,115,116],[116],[32,123,32,99,97,108,108,32,104,35,59,32,99,97,108,108,32,104,35,59,32,99,104,101,99,107,32,103,35,46,97,32,61,61,32]++itoaS ((2+v%3:Nat):Int)++[59,32,125]⟩]
 |_=>[⟨[116,101,115,116],[116],[32,123,32,100,114,97,119,32,36,97,32,50,59,32,105,102,32,36,97,32,123,32,97,108,108,111,99,32,53,59,32,115,108,101,101,112,32,50,59,32,110,111,119,32,36,98,59,32,125,32,101,108,115,101,32,123,32,97,108,108,111,99,32]++itoaS ((1+v%9:Nat):Int)++[59,32,125,32,99,104,101,99,107,32]++jW v++[59,32,125]⟩]
def fC(k i v:Nat):List Df:=NL i (bS v k)
def eE:Df:=⟨[115,104,97,114,101,100],[118,97,114,32,115,104,97,114,101,100,32,61,32,48,59]⟩
def QO(l:List Int)(st:List Df×Bool)(i:Nat):List Df×Bool:=
 let n:=(sR l (1+i) 4096).toNat
 let out:=st.1++fC (n%14) i (n / 14)
 if n%14=9/\st.2=false then(out++[eE],true)else(out,st.2)
def sD(l:List Int):Nat:=1+(sR l 0 3).toNat
def jR(l:List Int)(k:Nat):List Df×Bool:=(List.range k).foldl (QO l) ([],false)
def NA(l:List Int):List Df:=lA (jR l (sD l)).1 (sR l 4 64)
section
attribute[local simp] hZ.cond Nd.d_eq nd_t nd_dr nd_td ndsD aO bA bH
theorem NB(s:aJ)(i:Nat):(jF s i).length=s.length:=by simp[jF]
theorem JV(s:aJ)(i:Nat)(hi:i<=9)(hs:s.length<=1000000000):Ok Tryz.prog 143 [.str s,aH i] ⟨.d (.str (jF s i)),true⟩:=by
 refine bF Tryz.func143 rfl Tryz.ntmps143 Tryz.results143 λw0 X hp=>?_;refine aA ?_;simp;have iop:∀{op:Op} {d:Option Nat} {t:TypeId} {p:String} {af:Array Edge},kF ⟨d,op,t,p,af,none⟩ op d:=⟨rfl,rfl,rfl⟩;refine Mi hT (by kernel_rfl) (by kernel_rfl) (by kernel_rfl) (by kernel_rfl) (λw=>cF (w:=w) hT (t:=5) rfl) rfl rfl rfl iop iop iop iop iop iop iop iop iop iop iop iop iop iop iop iop iop iop iop iop iop iop iop iop iop iop (s:=s) (i:=i) (by simp) (by simp) hi hs ?_;simp
theorem Ub{l:List R3}{y:DV}(h:y∈l.map R3.d):(aI y).length=3:=by obtain⟨u,_,rfl⟩:=List.mem_map.1 h;rfl
theorem Uc{l:List R3}:(∀y∈List.map R3.d l,(aI y).length=3)↔True:=iff_true_intro λ_ h=>Ub h
theorem Ud{u:R3}:(aI u.d).length=3:=rfl
attribute[local simp] Uc Ud R3.d
theorem Fn(i:Nat)(r:List R3):(NL i r).length=r.length:=by simp[NL]
theorem Ue(i:Nat)(r:List R3)(hi:i<=9)(hl:r.length<=1000)(hr:∀x∈r,x.w.length<=1000/\x.l.length<=1000/\x.t.length<=1000000):Ok Tryz.prog 90 [aH i,.sl (r.map R3.d)] ⟨.own 2 ((NL i r).map Df.d),true⟩:=by
 refine bF Tryz.func90 rfl Tryz.ntmps90 Tryz.results90 λw0 X hp=>?_;refine aA ?_;simp;refine aA ?_;simp;refine aD ?_;refine aA ?_;simp;refine aL ?_;refine aS (ι:=Nat) (λk=>aQ [(0,.d (aH (i:Nat))),(1,.d (.sl (r.map R3.d))),(5,.ow 5 0 k),(6,.d (aH (k:Nat)))]) (λk=>aG [(5,.row false 2 (((NL i r).take k).map Df.d))]) (λk=>k<=r.length) (λk=>r.length-k) 0 (aB hp [0,1,5,6] [(5,5)]) (Nat.zero_le _) λk hi3=>?_;refine aD ?_;refine aA ?_;simp;refine aC ?_;simp;refine⟨λh3=>?_,λh3=>?_⟩
 ·refine aE ?_;simp;refine aD ?_;refine aL ?_;have hk:k<r.length:=by omega
  obtain⟨x,hx⟩:∃x,r[k]=x:=⟨_,rfl⟩;obtain⟨hw,hle,ht⟩:=hr x (hx▸List.getElem_mem hk);have kf:=JV x.t i hi (by omega);have kd:=QL x.w x.l (i:Int) (jF x.t i) (by omega) (by omega) (by have:=bV (i:Int);omega) hw hle (by rw[NB];omega);have hns:(NL i r).take (k+1)=(NL i r).take k++[Nz x.w x.l (i:Int) (jF x.t i)]:=by
   rw[List.take_succ_eq_append_getElem (by rw[Fn];exact hk)];simp[NL,hx]
  have hnd:List.take (k+1) (List.map Df.d (NL i r))=List.take k (List.map Df.d (NL i r))++[(Nz x.w x.l (i:Int) (jF x.t i)).d]:=by rw[<-List.map_take,hns,List.map_append,List.map_take];rfl
  refine eO.rd [[31,32,33],[31],[31],[31],[31],[31],[31],[31],[31],[31],[31],[31]] [[],[],[],[],[],[],[],[],[],[],[],[],[],[],[],[],[],[],[31],[32],[33],[5,34]] (λ|31=>some<| .plain ⟨.d (.str (jF x.t i)),true⟩|32=>some<| .plain ⟨.d (Nz x.w x.l (i:Int) (jF x.t i)).d,false⟩|_=>none) ?_;simp[hk,hx];refine⟨⟨⟨by simpa using kf,by simpa using kd⟩,by omega⟩,?_⟩;refine aM ?_;simp;refine⟨by omega,?_⟩;refine Ks.mk (k+1) (aB hp [0,1,5,6] [(34,5)] (hH:=by simp[hnd,List.take_take,Df.d])) ?_ ?_
  ·omega
  ·omega
 ·refine bT ?_;simp;refine aA ?_;simp;refine aF ?_;have e:k=r.length:=by omega
  have htk:List.take r.length (List.map Df.d (NL i r))=List.map Df.d (NL i r):=List.take_of_length_le (by rw[List.length_map,Fn];exact Nat.le_refl _);simp[e,htk,Fn]
end
section
attribute[local simp] hZ.cond Nd.d_eq nd_t nd_dr nd_td ndsD aO bA bH Uc Ud R3.d
theorem eP{L:List aJ}{k b:Nat}(h:∀w∈L,w.length<=b):(L.getD k []).length<=b:=by
 rw[List.getD_eq_getElem?_getD];cases e:L[k]? with
 |none=>exact Nat.zero_le _
 |some w=>exact h w (List.mem_of_getElem? e)
theorem vC{L:List aJ}{k:Nat}(h:k<L.length):(L.map DV.str)[k]?.getD default=.str (L.getD k []):=by
 rw[List.getElem?_map,List.getElem?_eq_getElem h];simp[List.getD_eq_getElem?_getD,h]
theorem Ld:∀w∈QM,w.length<=60:=by decide
theorem DS:∀w∈Cc,w.length<=60:=by decide
theorem Le:∀w∈QN,w.length<=60:=by decide
theorem Hw:∀w∈Ht,w.length<=60:=by decide
theorem DT:∀w∈Cd,w.length<=60:=by decide
theorem Hx:∀w∈Hu,w.length<=60:=by decide
theorem Hy:∀w∈Hv,w.length<=60:=by decide
theorem zS(v k:Nat):(bS v k).length<=6/\∀x∈bS v k,x.w.length<=1000/\x.l.length<=1000/\x.t.length<=1000:=by
 have i1:=bV ((v%2:Nat):Int);have i2:=bV ((1+v%2:Nat):Int);have i3:=bV ((2+v%2:Nat):Int);have i4:=bV ((v%3:Nat):Int);have i5:=bV ((1+v%3:Nat):Int);have i6:=bV ((2+v%3:Nat):Int);have i7:=bV ((3+v%3:Nat):Int);have i8:=bV ((1+v%9:Nat):Int);have l0:(qH v).length<=60:=eP Ld;have l1:(fU v).length<=60:=eP DS;have l2:(qP v).length<=60:=eP Le;have l3:(jU v).length<=60:=eP Hw;have l4:(fV v).length<=60:=eP DT;have l5:(jV v).length<=60:=eP Hx;have l6:(jW v).length<=60:=eP Hy;unfold bS;split<;>(simp only[List.forall_mem_cons,List.length_append,List.length_cons,List.length_nil,List.not_mem_nil,false_imp_iff,implies_true,and_true];(repeat' with_reducible apply And.intro)<;>omega)
theorem jO(k i v:Nat)(hi:i<=9):Ok Tryz.prog 90 [aH i,.sl ((bS v k).map R3.d)] ⟨.own 2 ((fC k i v).map Df.d),true⟩:=
 Ue i (bS v k) hi (by have:=(zS v k).1;omega) λx hx=>by have:=(zS v k).2 x hx;omega
theorem Hz(k i v:Nat)(hk:k<6)(hi:i<=9)(hv:v<=1000000):Ok Tryz.prog 89 [aH k,aH i,aH v] ⟨.own 2 ((fC k i v).map Df.d),true⟩:=by
 refine bF Tryz.func89 rfl Tryz.ntmps89 Tryz.results89 λw0 X hp=>?_;obtain⟨m2,q2⟩:∃m:Nat,v%2=m:=⟨_,rfl⟩;obtain⟨m3,q3⟩:∃m:Nat,v%3=m:=⟨_,rfl⟩;obtain⟨m9,q9⟩:∃m:Nat,v%9=m:=⟨_,rfl⟩;obtain⟨m4,q4⟩:∃m:Nat,v / 2%4=m:=⟨_,rfl⟩;obtain⟨n2,g2⟩:∃m:Nat,v / 2%2=m:=⟨_,rfl⟩;obtain⟨n9,g9⟩:∃m:Nat,v / 9%2=m:=⟨_,rfl⟩;have e2:(v:Int).tmod 2=(m2:Int):=by rw[<-q2];rfl
 have e3:(v:Int).tmod 3=(m3:Int):=by rw[<-q3];rfl
 have e9:(v:Int).tmod 9=(m9:Int):=by rw[<-q9];rfl
 have e4:((v:Int) / 2).tmod 4=(m4:Int):=by rw[<-q4];rfl
 have d2:((v:Int) / 2).tmod 2=(n2:Int):=by rw[<-g2];rfl
 have d9:((v:Int) / 9).tmod 2=(n9:Int):=by rw[<-g9];rfl
 have b2:(v:Int) / 2<=v:=by omega
 have b9:(v:Int) / 9<=v:=by omega
 refine aA ?_;simp;refine aD ?_;obtain⟨two,htwo⟩:∃x,qH v=x:=⟨_,rfl⟩;have ltwo:two.length<=60:=by rw[<-htwo];exact eP Ld
 have ctwo:=vC (L:=QM) (k:=m4) (by show _<4;omega);rw[show QM.getD m4 []=two by rw[<-htwo];simp only[qH,q2,q4,g2,g9]]at ctwo;simp[QM]at ctwo;refine aM ?_;simp[e2,e3,e9,e4,d2,d9,ctwo];refine⟨by(repeat' with_reducible apply And.intro)<;>first|omega|rfl,?_⟩;refine aD ?_;obtain⟨order,horder⟩:∃x,fU v=x:=⟨_,rfl⟩;have lorder:order.length<=60:=by rw[<-horder];exact eP DS
 have corder:=vC (L:=Cc) (k:=m2) (by show _<2;omega);rw[show Cc.getD m2 []=order by rw[<-horder];simp only[fU,q2,q4,g2,g9]]at corder;simp[Cc]at corder;refine aM ?_;simp[e2,e3,e9,e4,d2,d9,corder];refine⟨by(repeat' with_reducible apply And.intro)<;>first|omega|rfl,?_⟩;refine aD ?_;obtain⟨row,hrow⟩:∃x,qP v=x:=⟨_,rfl⟩;have lrow:row.length<=60:=by rw[<-hrow];exact eP Le
 have crow:=vC (L:=QN) (k:=n2) (by show _<2;omega);rw[show QN.getD n2 []=row by rw[<-hrow];simp only[qP,q2,q4,g2,g9]]at crow;simp[QN]at crow;refine aM ?_;simp[e2,e3,e9,e4,d2,d9,crow];refine⟨by(repeat' with_reducible apply And.intro)<;>first|omega|rfl,?_⟩;refine aD ?_;refine aA ?_;simp;refine aL ?_;refine aA ?_;simp;refine aC ?_;simp;refine⟨λh5=>?_,λh5=>?_⟩
 ·have ek:k=0:=by omega
  subst ek;refine aD ?_;obtain⟨P,hP⟩:∃P,fC 0 i v=P:=⟨_,rfl⟩;have kf:=jO 0 i v hi;rw[hP]at kf;have kd:=qM ((m2:Nat):Int) (by omega) (by omega);have il:=bV ((m2:Nat):Int);obtain⟨dg,hdg⟩:∃x,itoaS ((m2:Nat):Int)=x:=⟨_,rfl⟩;rw[hdg]at kd il;simp only[bS,q2,q3,q9,htwo,hdg]at kf;simp at kf kd;refine eO.ro hT hW (λ|33=>some<| .plain ⟨.d (.str dg),true⟩|44=>some<| .plain ⟨.own 2 (P.map Df.d),true⟩|_=>none) ?_;simp[e2,e3,e9,e4,d2,d9];refine⟨by(repeat' with_reducible apply And.intro)<;>first|omega|with_reducible assumption|rfl|simpa using kf,?_⟩;refine aF ?_;simp[hP]
 ·refine aA ?_;simp;refine aC ?_;simp;refine⟨λh7=>?_,λh7=>?_⟩
  ·have ek:k=1:=(by omega);subst ek;refine aD ?_;obtain⟨P,hP⟩:∃P,fC 1 i v=P:=⟨_,rfl⟩;have kf:=jO 1 i v hi;rw[hP]at kf;have kd:=qM ((m2:Nat):Int) (by omega) (by omega);have il:=bV ((m2:Nat):Int);obtain⟨dg,hdg⟩:∃x,itoaS ((m2:Nat):Int)=x:=⟨_,rfl⟩;rw[hdg]at kd il;simp only[bS,q2,q3,q9,htwo,hdg]at kf;simp at kf kd;refine eO.ro hT hW (λ|50=>some<| .plain ⟨.d (.str dg),true⟩|62=>some<| .plain ⟨.own 2 (P.map Df.d),true⟩|_=>none) ?_;simp[e2,e3,e9,e4,d2,d9];refine⟨by(repeat' with_reducible apply And.intro)<;>first|omega|with_reducible assumption|rfl|simpa using kf,?_⟩;refine aF ?_;simp[hP]
  ·refine aA ?_;simp;refine aC ?_;simp;refine⟨λh9=>?_,λh9=>?_⟩
   ·have ek:k=2:=(by omega);subst ek;refine aD ?_;obtain⟨P,hP⟩:∃P,fC 2 i v=P:=⟨_,rfl⟩;have kf:=jO 2 i v hi;rw[hP]at kf;have kd:=qM ((1+m2:Nat):Int) (by omega) (by omega);have il:=bV ((1+m2:Nat):Int);obtain⟨dg,hdg⟩:∃x,itoaS ((1+m2:Nat):Int)=x:=⟨_,rfl⟩;rw[hdg]at kd il;simp only[bS,q2,q3,q9,hrow,hdg]at kf;simp at kf kd;refine eO.ro hT hW (λ|69=>some<| .plain ⟨.d (.str dg),true⟩|79=>some<| .plain ⟨.own 2 (P.map Df.d),true⟩|_=>none) ?_;simp[e2,e3,e9,e4,d2,d9];refine⟨by(repeat' with_reducible apply And.intro)<;>first|omega|with_reducible assumption|rfl|simpa using kf,?_⟩;refine aF ?_;simp[hP]
   ·refine aA ?_;simp;refine aC ?_;simp;refine⟨λh11=>?_,λh11=>?_⟩
    ·have ek:k=3:=(by omega);subst ek;refine aD ?_;obtain⟨P,hP⟩:∃P,fC 3 i v=P:=⟨_,rfl⟩;have kf:=jO 3 i v hi;rw[hP]at kf;have kd:=qM ((1+m2:Nat):Int) (by omega) (by omega);have il:=bV ((1+m2:Nat):Int);obtain⟨dg,hdg⟩:∃x,itoaS ((1+m2:Nat):Int)=x:=⟨_,rfl⟩;rw[hdg]at kd il;simp only[bS,q2,q3,q9,hdg]at kf;simp at kf kd;refine eO.ro hT hW (λ|91=>some<| .plain ⟨.d (.str dg),true⟩|96=>some<| .plain ⟨.own 2 (P.map Df.d),true⟩|_=>none) ?_;simp[e2,e3,e9,e4,d2,d9];refine⟨by(repeat' with_reducible apply And.intro)<;>first|omega|with_reducible assumption|rfl|simpa using kf,?_⟩;refine aF ?_;simp[hP]
    ·refine aA ?_;simp;refine aC ?_;simp;refine⟨λh13=>?_,λh13=>?_⟩
     ·have ek:k=4:=(by omega);subst ek;refine aD ?_;obtain⟨P,hP⟩:∃P,fC 4 i v=P:=⟨_,rfl⟩;have kf:=jO 4 i v hi;rw[hP]at kf;simp only[bS,q2,q3,q9,horder]at kf;simp at kf;refine eO.ro hT hW (λ|109=>some<| .plain ⟨.own 2 (P.map Df.d),true⟩|_=>none) ?_;simp[e2,e3,e9,e4,d2,d9];refine⟨by(repeat' with_reducible apply And.intro)<;>first|omega|with_reducible assumption|rfl|simpa using kf,?_⟩;refine aF ?_;simp[hP]
     ·refine aE ?_;simp;refine aD ?_;have ek:k=5:=by omega
      subst ek;obtain⟨P,hP⟩:∃P,fC 5 i v=P:=⟨_,rfl⟩;have kf:=jO 5 i v hi;rw[hP]at kf;obtain⟨five,hfive⟩:∃x,jU v=x:=⟨_,rfl⟩;have lfive:five.length<=60:=by rw[<-hfive];exact eP Hw
      have cfive:=vC (L:=Ht) (k:=n2) (by show _<2;omega);rw[show Ht.getD n2 []=five by rw[<-hfive];simp only[jU,q2,q4,g2,g9]]at cfive;simp[Ht]at cfive;have kd:=qM ((2+m2:Nat):Int) (by omega) (by omega);have il:=bV ((2+m2:Nat):Int);obtain⟨dg,hdg⟩:∃x,itoaS ((2+m2:Nat):Int)=x:=⟨_,rfl⟩;rw[hdg]at kd il;simp only[bS,q2,q3,q9,hfive,hdg]at kf;simp at kf kd;refine eO.rd [[115,119,128],[115,119],[119],[119],[119],[119],[119],[119],[119],[115],[115,119],[115,119],[115,119],[115],[115],[115],[115],[115]] [[],[],[],[],[],[115],[],[],[],[119],[],[],[],[],[],[],[],[],[128],[129]] (λ|115=>some<| .plain ⟨.d (.str dg),true⟩|129=>some<| .plain ⟨.own 2 (P.map Df.d),true⟩|_=>none) ?_;simp[e2,e3,e9,e4,d2,d9,cfive];refine⟨by(repeat' with_reducible apply And.intro)<;>first|omega|with_reducible assumption|rfl|simpa using kf,?_⟩;refine aF ?_;simp[hP]
end
section
attribute[local simp] hZ.cond Nd.d_eq nd_t nd_dr nd_td ndsD aO bA bH Uc Ud R3.d
theorem HA(k i v:Nat)(hk:k<14)(hi:i<=9)(hv:v<=1000000):Ok Tryz.prog 54 [aH k,aH i,aH v] ⟨.own 2 ((fC k i v).map Df.d),true⟩:=by
 refine bF Tryz.func54 rfl Tryz.ntmps54 Tryz.results54 λw0 X hp=>?_;obtain⟨m2,q2⟩:∃m:Nat,v%2=m:=⟨_,rfl⟩;obtain⟨m3,q3⟩:∃m:Nat,v%3=m:=⟨_,rfl⟩;obtain⟨m9,q9⟩:∃m:Nat,v%9=m:=⟨_,rfl⟩;obtain⟨m4,q4⟩:∃m:Nat,v / 2%4=m:=⟨_,rfl⟩;obtain⟨n2,g2⟩:∃m:Nat,v / 2%2=m:=⟨_,rfl⟩;obtain⟨n9,g9⟩:∃m:Nat,v / 9%2=m:=⟨_,rfl⟩;have e2:(v:Int).tmod 2=(m2:Int):=by rw[<-q2];rfl
 have e3:(v:Int).tmod 3=(m3:Int):=by rw[<-q3];rfl
 have e9:(v:Int).tmod 9=(m9:Int):=by rw[<-q9];rfl
 have e4:((v:Int) / 2).tmod 4=(m4:Int):=by rw[<-q4];rfl
 have d2:((v:Int) / 2).tmod 2=(n2:Int):=by rw[<-g2];rfl
 have d9:((v:Int) / 9).tmod 2=(n9:Int):=by rw[<-g9];rfl
 have b2:(v:Int) / 2<=v:=by omega
 have b9:(v:Int) / 9<=v:=by omega
 refine aA ?_;simp;refine aD ?_;refine aA ?_;simp;refine aL ?_;refine aZ (ι:=Unit) (λc=>aQ [(0,.d (aH (k:Nat))),(1,.d (aH (i:Nat))),(2,.d (aH (v:Nat))),(7,.d (aH (k:Nat))),(8,.d (.bool (decide (k<6))))]) (λc=>aG []) (λc=>True) ?_ λc hc8=>?_
 ·refine aA ?_;simp;refine aC ?_;simp;refine⟨λh2=>?_,λh2=>?_⟩
  ·refine aE ?_;simp;exact(aB hp [0,1,2,7,8] [] (by simp[h2]))
  ·refine aA ?_;simp;refine aC ?_;simp;refine⟨λh3=>?_,λh3=>?_⟩
   ·refine aE ?_;simp;exact(aB hp [0,1,2,7,8] [] (by simp[show k<6 by omega,h3]))
   ·refine aA ?_;simp;refine aC ?_;simp;refine⟨λh4=>?_,λh4=>?_⟩
    ·refine aE ?_;simp;exact(aB hp [0,1,2,7,8] [] (by simp[show k<6 by omega,h4]))
    ·refine aA ?_;simp;refine aC ?_;simp;refine⟨λh5=>?_,λh5=>?_⟩
     ·refine aE ?_;simp;exact(aB hp [0,1,2,7,8] [] (by simp[show k<6 by omega,h5]))
     ·refine aA ?_;simp;refine aC ?_;simp;refine⟨λh6=>?_,λh6=>?_⟩
      ·refine aE ?_;simp;exact(aB hp [0,1,2,7,8] [] (by simp[show k<6 by omega,h6]))
      ·refine aM ?_;simp;exact(aB hp [0,1,2,7,8] [] (by have e6:(k<6)=((k:Int)=5):=propext (by omega);simp[e6]))
 ·refine aC ?_;simp;refine⟨λh8=>?_,λh8=>?_⟩
  ·refine aD ?_;have k6:k<6:=h8;obtain⟨P,hP⟩:∃P,fC k i v=P:=⟨_,rfl⟩;have kt:=Hz k i v k6 hi hv;rw[hP]at kt;refine eO.ro hT hW (λ|18=>some<| .plain ⟨.own 2 (P.map Df.d),true⟩|_=>none) ?_;simp;refine⟨kt,?_⟩;refine aF ?_;simp[hP]
  ·refine aA ?_;simp;refine aC ?_;simp;refine⟨λh9=>?_,λh9=>?_⟩
   ·have ek:k=6:=(by omega);subst ek;refine aD ?_;obtain⟨P,hP⟩:∃P,fC 6 i v=P:=⟨_,rfl⟩;have kf:=jO 6 i v hi;rw[hP]at kf;have kd:=qM ((1+m3:Nat):Int) (by omega) (by omega);have il:=bV ((1+m3:Nat):Int);obtain⟨dg,hdg⟩:∃x,itoaS ((1+m3:Nat):Int)=x:=⟨_,rfl⟩;rw[hdg]at kd il;simp only[bS,q2,q3,q9,hdg]at kf;simp at kf kd;refine eO.ro hT hW (λ|25=>some<| .plain ⟨.d (.str dg),true⟩|30=>some<| .plain ⟨.own 2 (P.map Df.d),true⟩|_=>none) ?_;simp[e2,e3,e9,e4,d2,d9];refine⟨by(repeat' with_reducible apply And.intro)<;>first|omega|with_reducible assumption|rfl|simpa using kf,?_⟩;refine aF ?_;simp[hP]
   ·refine aA ?_;simp;refine aC ?_;simp;refine⟨λh11=>?_,λh11=>?_⟩
    ·have ek:k=7:=(by omega);subst ek;refine aD ?_;obtain⟨P,hP⟩:∃P,fC 7 i v=P:=⟨_,rfl⟩;have kf:=jO 7 i v hi;rw[hP]at kf;have kd:=qM ((3+m3:Nat):Int) (by omega) (by omega);have il:=bV ((3+m3:Nat):Int);obtain⟨dg,hdg⟩:∃x,itoaS ((3+m3:Nat):Int)=x:=⟨_,rfl⟩;rw[hdg]at kd il;simp only[bS,q2,q3,q9,hdg]at kf;simp at kf kd;refine eO.ro hT hW (λ|37=>some<| .plain ⟨.d (.str dg),true⟩|42=>some<| .plain ⟨.own 2 (P.map Df.d),true⟩|_=>none) ?_;simp[e2,e3,e9,e4,d2,d9];refine⟨by(repeat' with_reducible apply And.intro)<;>first|omega|with_reducible assumption|rfl|simpa using kf,?_⟩;refine aF ?_;simp[hP]
    ·refine aA ?_;simp;refine aC ?_;simp;refine⟨λh13=>?_,λh13=>?_⟩
     ·have ek:k=8:=(by omega);subst ek;refine aD ?_;obtain⟨P,hP⟩:∃P,fC 8 i v=P:=⟨_,rfl⟩;have kf:=jO 8 i v hi;rw[hP]at kf;obtain⟨eight,height⟩:∃x,fV v=x:=⟨_,rfl⟩;have leight:eight.length<=60:=by rw[<-height];exact eP DT
      have ceight:=vC (L:=Cd) (k:=m2) (by show _<2;omega);rw[show Cd.getD m2 []=eight by rw[<-height];simp only[fV,q2,q4,g2,g9]]at ceight;simp[Cd]at ceight;simp only[bS,q2,q3,q9,height]at kf;simp at kf;refine eO.ro hT hW (λ|56=>some<| .plain ⟨.own 2 (P.map Df.d),true⟩|_=>none) ?_;simp[e2,e3,e9,e4,d2,d9,ceight];refine⟨by(repeat' with_reducible apply And.intro)<;>first|omega|with_reducible assumption|rfl|simpa using kf,?_⟩;refine aF ?_;simp[hP]
     ·refine aA ?_;simp;refine aC ?_;simp;refine⟨λh15=>?_,λh15=>?_⟩
      ·have ek:k=9:=(by omega);subst ek;refine aD ?_;obtain⟨P,hP⟩:∃P,fC 9 i v=P:=⟨_,rfl⟩;have kf:=jO 9 i v hi;rw[hP]at kf;obtain⟨nine,hnine⟩:∃x,jV v=x:=⟨_,rfl⟩;have lnine:nine.length<=60:=by rw[<-hnine];exact eP Hx
       have cnine:=vC (L:=Hu) (k:=m2) (by show _<2;omega);rw[show Hu.getD m2 []=nine by rw[<-hnine];simp only[jV,q2,q4,g2,g9]]at cnine;simp[Hu]at cnine;simp only[bS,q2,q3,q9,hnine]at kf;simp at kf;refine eO.ro hT hW (λ|67=>some<| .plain ⟨.own 2 (P.map Df.d),true⟩|_=>none) ?_;simp[e2,e3,e9,e4,d2,d9,cnine];refine⟨by(repeat' with_reducible apply And.intro)<;>first|omega|with_reducible assumption|rfl|simpa using kf,?_⟩;refine aF ?_;simp[hP]
      ·refine aA ?_;simp;refine aC ?_;simp;refine⟨λh17=>?_,λh17=>?_⟩
       ·have ek:k=10:=(by omega);subst ek;refine aD ?_;obtain⟨P,hP⟩:∃P,fC 10 i v=P:=⟨_,rfl⟩;have kf:=jO 10 i v hi;rw[hP]at kf;have kd:=qM ((1+m3:Nat):Int) (by omega) (by omega);have il:=bV ((1+m3:Nat):Int);obtain⟨dg,hdg⟩:∃x,itoaS ((1+m3:Nat):Int)=x:=⟨_,rfl⟩;rw[hdg]at kd il;simp only[bS,q2,q3,q9,hdg]at kf;simp at kf kd;refine eO.ro hT hW (λ|75=>some<| .plain ⟨.d (.str dg),true⟩|80=>some<| .plain ⟨.own 2 (P.map Df.d),true⟩|_=>none) ?_;simp[e2,e3,e9,e4,d2,d9];refine⟨by(repeat' with_reducible apply And.intro)<;>first|omega|with_reducible assumption|rfl|simpa using kf,?_⟩;refine aF ?_;simp[hP]
       ·refine aA ?_;simp;refine aC ?_;simp;refine⟨λh19=>?_,λh19=>?_⟩
        ·have ek:k=11:=(by omega);subst ek;refine aD ?_;obtain⟨P,hP⟩:∃P,fC 11 i v=P:=⟨_,rfl⟩;have kf:=jO 11 i v hi;rw[hP]at kf;have kd:=qM ((m3:Nat):Int) (by omega) (by omega);have il:=bV ((m3:Nat):Int);obtain⟨dg,hdg⟩:∃x,itoaS ((m3:Nat):Int)=x:=⟨_,rfl⟩;rw[hdg]at kd il;simp only[bS,q2,q3,q9,hdg]at kf;simp at kf kd;refine eO.ro hT hW (λ|86=>some<| .plain ⟨.d (.str dg),true⟩|91=>some<| .plain ⟨.own 2 (P.map Df.d),true⟩|_=>none) ?_;simp[e2,e3,e9,e4,d2,d9];refine⟨by(repeat' with_reducible apply And.intro)<;>first|omega|with_reducible assumption|rfl|simpa using kf,?_⟩;refine aF ?_;simp[hP]
        ·refine aA ?_;simp;refine aC ?_;simp;refine⟨λh21=>?_,λh21=>?_⟩
         ·have ek:k=12:=(by omega);subst ek;refine aD ?_;obtain⟨P,hP⟩:∃P,fC 12 i v=P:=⟨_,rfl⟩;have kf:=jO 12 i v hi;rw[hP]at kf;have kd:=qM ((2+m3:Nat):Int) (by omega) (by omega);have il:=bV ((2+m3:Nat):Int);obtain⟨dg,hdg⟩:∃x,itoaS ((2+m3:Nat):Int)=x:=⟨_,rfl⟩;rw[hdg]at kd il;simp only[bS,q2,q3,q9,hdg]at kf;simp at kf kd;refine eO.ro hT hW (λ|100=>some<| .plain ⟨.d (.str dg),true⟩|105=>some<| .plain ⟨.own 2 (P.map Df.d),true⟩|_=>none) ?_;simp[e2,e3,e9,e4,d2,d9];refine⟨by(repeat' with_reducible apply And.intro)<;>first|omega|with_reducible assumption|rfl|simpa using kf,?_⟩;refine aF ?_;simp[hP]
         ·refine aE ?_;simp;refine aD ?_;have ek:k=13:=by omega
          subst ek;obtain⟨P,hP⟩:∃P,fC 13 i v=P:=⟨_,rfl⟩;have kf:=jO 13 i v hi;rw[hP]at kf;obtain⟨last,hlast⟩:∃x,jW v=x:=⟨_,rfl⟩;have llast:last.length<=60:=by rw[<-hlast];exact eP Hy
          have clast:=vC (L:=Hv) (k:=n9) (by show _<2;omega);rw[show Hv.getD n9 []=last by rw[<-hlast];simp only[jW,q2,q4,g2,g9]]at clast;simp[Hv]at clast;have kd:=qM ((1+m9:Nat):Int) (by omega) (by omega);have il:=bV ((1+m9:Nat):Int);obtain⟨dg,hdg⟩:∃x,itoaS ((1+m9:Nat):Int)=x:=⟨_,rfl⟩;rw[hdg]at kd il;simp only[bS,q2,q3,q9,hlast,hdg]at kf;simp at kf kd;refine eO.rd [[110,113,122],[113],[113],[113],[113],[113],[113],[110],[110,113],[110,113],[110,113],[110],[110]] [[],[],[],[],[110],[],[],[113],[],[],[],[],[],[],[],[],[122],[123]] (λ|110=>some<| .plain ⟨.d (.str dg),true⟩|123=>some<| .plain ⟨.own 2 (P.map Df.d),true⟩|_=>none) ?_;simp[e2,e3,e9,e4,d2,d9,clast];refine⟨by(repeat' with_reducible apply And.intro)<;>first|omega|with_reducible assumption|rfl|simpa using kf,?_⟩;refine aF ?_;simp[hP]
end
def Lf(ts:List (aJ×Nd×Int×Int))(sh:Bool)(u:bZ):Bool:=
 (sh&&decide (u.name=eE.name)&&decide (u.kind=0)&&decide (u.bk≠14))||
   ts.any λp=>decide (p.1=u.name)&&decide (p.2.1.kind=u.kind)&&(decide (u.kind≠1)||decide (u.field∈bP p.2.1))&&(decide (u.bk≠14)||(aW p.2.1).all λv=>decide (v.bk≠14))
def QP(c:UInt8)(sh:Bool)(ts:List (aJ×Nd×Int×Int)):Bool:=
 decide (ts.length<=6)&&decide ((ts.map Prod.fst).Nodup)&&ts.all (λp=>decide (p.1.getLast?=some c)&&decide (p.2.2.2=0)&&decide (p.2.1.text=p.1)&&decide ((bP p.2.1).Nodup)&&(aW p.2.1).all (Lf ts sh))
def fW(c:UInt8)(sh:Bool)(l:List Df):Bool:=QP c sh (l.map λd=>(d.name,parseS d.text))
structure JW(c:UInt8)(sh:Bool)(l:List Df):Prop where
 len:l.length<=6
 names:(l.map Df.name).Nodup
 last:∀d∈l,d.name.getLast?=some c
 fine:∀d∈l,zP d
 uses:∀d∈l,∀u∈aW (treeD d),(sh=true/\u.name=eE.name/\u.kind=0/\u.bk≠14)\/
  ∃e∈l,e.name=u.name/\(treeD e).kind=u.kind/\(u.kind=1->u.field∈bP (treeD e))/\(u.bk=14->∀v∈aW (treeD e),v.bk≠14)
theorem QQ{c:UInt8}{sh:Bool}{l:List Df}(h:fW c sh l=true):JW c sh l:=by
 unfold fW QP at h;simp only[Bool.and_eq_true,decide_eq_true_eq,List.length_map,List.map_map,List.all_eq_true,List.mem_map,forall_exists_index,and_imp,forall_apply_eq_imp_iff₂]at h;obtain⟨⟨h1,h2⟩,h3⟩:=h;refine⟨h1,h2,λd hd=>(h3 d hd).1.1.1.1,λd hd=>⟨(h3 d hd).1.1.1.2,(h3 d hd).1.1.2,(h3 d hd).1.2⟩,λd hd u hu=>?_⟩;have hf:=(h3 d hd).2 u hu;unfold Lf at hf;simp only[Bool.or_eq_true,Bool.and_eq_true,decide_eq_true_eq,List.any_eq_true,List.mem_map,List.all_eq_true]at hf;rcases hf with hf|⟨p,⟨e,he,rfl⟩,⟨⟨⟨a,b⟩,c⟩,f⟩⟩
 ·exact .inl ⟨hf.1.1.1,hf.1.1.2,hf.1.2,hf.2⟩
 ·refine .inr ⟨e,he,a,b,λhk=>c.resolve_left λhc=>hc hk,λhk v hv=>?_⟩;exact(f.resolve_left λhc=>hc hk) v hv
set_option maxRecDepth 100000 in
theorem SD:((List.range 3).all λi=>(List.range 8).all λv=>fW (UInt8.ofNat (48+i)) false (fC 0 i v))=true:=by kernel_rfl
set_option maxRecDepth 100000 in
theorem SE:((List.range 3).all λi=>(List.range 8).all λv=>fW (UInt8.ofNat (48+i)) false (fC 1 i v))=true:=by kernel_rfl
set_option maxRecDepth 100000 in
theorem SF:((List.range 3).all λi=>(List.range 4).all λv=>fW (UInt8.ofNat (48+i)) false (fC 2 i v))=true:=by kernel_rfl
set_option maxRecDepth 100000 in
theorem SG:((List.range 3).all λi=>(List.range 2).all λv=>fW (UInt8.ofNat (48+i)) false (fC 3 i v))=true:=by kernel_rfl
set_option maxRecDepth 100000 in
theorem SH:((List.range 3).all λi=>(List.range 2).all λv=>fW (UInt8.ofNat (48+i)) false (fC 4 i v))=true:=by kernel_rfl
set_option maxRecDepth 100000 in
theorem SI:((List.range 3).all λi=>(List.range 4).all λv=>fW (UInt8.ofNat (48+i)) false (fC 5 i v))=true:=by kernel_rfl
set_option maxRecDepth 100000 in
theorem SJ:((List.range 3).all λi=>(List.range 3).all λv=>fW (UInt8.ofNat (48+i)) false (fC 6 i v))=true:=by kernel_rfl
set_option maxRecDepth 100000 in
theorem SK:((List.range 3).all λi=>(List.range 3).all λv=>fW (UInt8.ofNat (48+i)) false (fC 7 i v))=true:=by kernel_rfl
set_option maxRecDepth 100000 in
theorem SL:((List.range 3).all λi=>(List.range 2).all λv=>fW (UInt8.ofNat (48+i)) false (fC 8 i v))=true:=by kernel_rfl
set_option maxRecDepth 100000 in
theorem SM:((List.range 3).all λi=>(List.range 2).all λv=>fW (UInt8.ofNat (48+i)) true (fC 9 i v))=true:=by kernel_rfl
set_option maxRecDepth 100000 in
theorem QR:((List.range 3).all λi=>(List.range 3).all λv=>fW (UInt8.ofNat (48+i)) false (fC 10 i v))=true:=by kernel_rfl
set_option maxRecDepth 100000 in
theorem QS:((List.range 3).all λi=>(List.range 3).all λv=>fW (UInt8.ofNat (48+i)) false (fC 11 i v))=true:=by kernel_rfl
set_option maxRecDepth 100000 in
theorem QT:((List.range 3).all λi=>(List.range 3).all λv=>fW (UInt8.ofNat (48+i)) false (fC 12 i v))=true:=by kernel_rfl
set_option maxRecDepth 100000 in
theorem QU:((List.range 3).all λi=>(List.range 18).all λv=>fW (UInt8.ofNat (48+i)) false (fC 13 i v))=true:=by kernel_rfl
theorem JX(v:Nat):bS (v%8) 0=bS v 0:=by
 simp only[bS,qH,fU,qP,jU,fV,jV,jW,show v%8%2=v%2 by omega,show v%8 / 2%4=v / 2%4 by omega]
theorem JY(v:Nat):bS (v%8) 1=bS v 1:=by
 simp only[bS,qH,fU,qP,jU,fV,jV,jW,show v%8%2=v%2 by omega,show v%8 / 2%4=v / 2%4 by omega]
theorem JZ(v:Nat):bS (v%4) 2=bS v 2:=by
 simp only[bS,qH,fU,qP,jU,fV,jV,jW,show v%4%2=v%2 by omega,show v%4 / 2%2=v / 2%2 by omega]
theorem Ka(v:Nat):bS (v%2) 3=bS v 3:=by
 simp only[bS,qH,fU,qP,jU,fV,jV,jW,show v%2%2=v%2 by omega]
theorem Kb(v:Nat):bS (v%2) 4=bS v 4:=by
 simp only[bS,qH,fU,qP,jU,fV,jV,jW,show v%2%2=v%2 by omega]
theorem Kc(v:Nat):bS (v%4) 5=bS v 5:=by
 simp only[bS,qH,fU,qP,jU,fV,jV,jW,show v%4%2=v%2 by omega,show v%4 / 2%2=v / 2%2 by omega]
theorem Kd(v:Nat):bS (v%3) 6=bS v 6:=by
 simp only[bS,qH,fU,qP,jU,fV,jV,jW,show v%3%3=v%3 by omega]
theorem Ke(v:Nat):bS (v%3) 7=bS v 7:=by
 simp only[bS,qH,fU,qP,jU,fV,jV,jW,show v%3%3=v%3 by omega]
theorem Kf(v:Nat):bS (v%2) 8=bS v 8:=by
 simp only[bS,qH,fU,qP,jU,fV,jV,jW,show v%2%2=v%2 by omega]
theorem Kg(v:Nat):bS (v%2) 9=bS v 9:=by
 simp only[bS,qH,fU,qP,jU,fV,jV,jW,show v%2%2=v%2 by omega]
theorem HB(v:Nat):bS (v%3) 10=bS v 10:=by
 simp only[bS,qH,fU,qP,jU,fV,jV,jW,show v%3%3=v%3 by omega]
theorem HC(v:Nat):bS (v%3) 11=bS v 11:=by
 simp only[bS,qH,fU,qP,jU,fV,jV,jW,show v%3%3=v%3 by omega]
theorem HD(v:Nat):bS (v%3) 12=bS v 12:=by
 simp only[bS,qH,fU,qP,jU,fV,jV,jW,show v%3%3=v%3 by omega]
theorem HE(v:Nat):bS (v%18) 13=bS v 13:=by
 simp only[bS,qH,fU,qP,jU,fV,jV,jW,show v%18%9=v%9 by omega,show v%18 / 9%2=v / 9%2 by omega]
theorem HF{k i v:Nat}(hk:k<14)(hi:i<3):JW (UInt8.ofNat (48+i)) (decide (k=9)) (fC k i v):=by
 refine QQ ?_;have key:∀(m:Nat) (b:Bool),0<m->bS (v%m) k=bS v k->((List.range 3).all λi=>(List.range m).all λv=>fW (UInt8.ofNat (48+i)) b (fC k i v))=true->fW (UInt8.ofNat (48+i)) b (fC k i v)=true:=by
  intro m b hm he h;have:=List.all_eq_true.1 (List.all_eq_true.1 h i (List.mem_range.2 hi)) (v%m) (List.mem_range.2 (Nat.mod_lt _ hm));unfold fC at this|-;rw[he]at this;exact this
 match k,hk with
 |0,_=>exact key 8 false (by decide) (JX v) SD
 |1,_=>exact key 8 false (by decide) (JY v) SE
 |2,_=>exact key 4 false (by decide) (JZ v) SF
 |3,_=>exact key 2 false (by decide) (Ka v) SG
 |4,_=>exact key 2 false (by decide) (Kb v) SH
 |5,_=>exact key 4 false (by decide) (Kc v) SI
 |6,_=>exact key 3 false (by decide) (Kd v) SJ
 |7,_=>exact key 3 false (by decide) (Ke v) SK
 |8,_=>exact key 2 false (by decide) (Kf v) SL
 |9,_=>exact key 2 true (by decide) (Kg v) SM
 |10,_=>exact key 3 false (by decide) (HB v) QR
 |11,_=>exact key 3 false (by decide) (HC v) QS
 |12,_=>exact key 3 false (by decide) (HD v) QT
 |13,_=>exact key 18 false (by decide) (HE v) QU
structure Uf(k:Nat)(st:List Df×Bool):Prop where
 len:st.1.length<=6*k+st.2.toNat
 names:(st.1.map Df.name).Nodup
 last:∀d∈st.1,(d=eE/\st.2=true)\/∃j<k,d.name.getLast?=some (UInt8.ofNat (48+j))
 shared:st.2=true->eE∈st.1
 fine:∀d∈st.1,zP d
 uses:∀d∈st.1,∀u∈aW (treeD d),∃e∈st.1,e.name=u.name/\(treeD e).kind=u.kind/\(u.kind=1->u.field∈bP (treeD e))/\(u.bk=14->∀v∈aW (treeD e),v.bk≠14)
theorem HG:zP eE:=by unfold zP;decide
theorem HH:aW (treeD eE)=[]:=by decide
theorem zT:(treeD eE).kind=0:=by decide
theorem zU:eE.name.getLast?=some 100:=by decide
theorem NC{a b:Nat}(ha:a<3)(hb:b<3)(h:UInt8.ofNat (48+a)=UInt8.ofNat (48+b)):a=b:=by
 have:=congrArg UInt8.toNat h;rw[UInt8.toNat_ofNat',UInt8.toNat_ofNat']at this;omega
theorem Lg{a:Nat}(ha:a<3):(100:UInt8)≠UInt8.ofNat (48+a):=by
 intro h;have:=congrArg UInt8.toNat h;rw[UInt8.toNat_ofNat']at this;have h2:(100:UInt8).toNat=100:=rfl;omega
theorem Uf.add{k:Nat}{st:List Df×Bool}{p:List Df}{sh:Bool}(hk:k<3)(h:Uf k st)(hp:JW (UInt8.ofNat (48+k)) sh p):
 Uf (k+1) (if sh=true/\st.2=false then(st.1++p++[eE],true)else(st.1++p,st.2)):=by
 have hn:((st.1++p).map Df.name).Nodup:=by
  rw[List.map_append,List.nodup_append];refine⟨h.names,hp.names,?_⟩;intro a ha b hb e;subst e;obtain⟨d,hd,rfl⟩:=List.mem_map.1 ha;obtain⟨d2,hd2,e2⟩:=List.mem_map.1 hb;have l2:=hp.last d2 hd2;rw[e2]at l2;rcases h.last d hd with⟨rfl,_⟩|⟨j,hj,l1⟩
  ·rw[zU]at l2;injection l2 with l2
   exact Lg hk l2
  ·rw[l1]at l2;injection l2 with l2
   have:=NC (by omega) hk l2;omega
 have hf:∀d∈st.1++p,zP d:=λd hd=>(List.mem_append.1 hd).elim (h.fine d) (hp.fine d);have hl:∀d∈st.1++p,(d=eE/\st.2=true)\/∃j<k+1,d.name.getLast?=some (UInt8.ofNat (48+j)):=λd hd=>by
  rcases List.mem_append.1 hd with hd|hd
  ·rcases h.last d hd with h1|⟨j,hj,h1⟩
   ·exact .inl h1
   ·exact .inr ⟨j,by omega,h1⟩
  ·exact .inr ⟨k,by omega,hp.last d hd⟩
 have hlen:(st.1++p).length<=6*(k+1)+st.2.toNat:=by
  have:=h.len;have:=hp.len;rw[List.length_append];omega
 split
 ·rename_i hc;refine⟨?_,?_,λd hd=>?_,λ_=>by simp,λd hd=>?_,λd hd u hu=>?_⟩
  ·simp only[List.length_append,List.length_cons,List.length_nil,Bool.toNat_true]at hlen|-;rw[hc.2]at hlen;simp at hlen;omega
  ·rw[List.map_append,List.nodup_append];refine⟨hn,by simp,?_⟩;intro a ha b hb e;simp at hb;subst hb;obtain⟨d,hd,e2⟩:=List.mem_map.1 ha;rcases hl d hd with⟨_,h2⟩|⟨j,hj,l1⟩
   ·rw[hc.2]at h2;cases h2
   ·rw[e2,e,zU]at l1;injection l1 with l1
    exact Lg (by omega) l1
  ·rcases List.mem_append.1 hd with hd|hd
   ·rcases hl d hd with⟨h1,_⟩|h1
    ·exact .inl ⟨h1,rfl⟩
    ·exact .inr h1
   ·simp at hd;exact .inl ⟨hd,rfl⟩
  ·rcases List.mem_append.1 hd with hd|hd
   ·exact hf d hd
   ·simp at hd;subst hd;exact HG
  ·have hs:eE∈st.1++p++[eE]:=(by simp);rcases List.mem_append.1 hd with hd|hd
   ·rcases List.mem_append.1 hd with hd|hd
    ·obtain⟨e,he,r⟩:=h.uses d hd u hu;exact⟨e,List.mem_append_left _ (List.mem_append_left _ he),r⟩
    ·rcases hp.uses d hd u hu with⟨_,h1,h2,h3⟩|⟨e,he,r⟩
     ·exact⟨eE,hs,h1.symm,by rw[zT,h2],(λhk=>by rw[h2]at hk;cases hk),λhk=>absurd hk h3⟩
     ·exact⟨e,List.mem_append_left _ (List.mem_append_right _ he),r⟩
   ·simp at hd;subst hd;rw[HH]at hu;cases hu
 ·rename_i hc;refine⟨hlen,hn,hl,λhb=>List.mem_append_left _ (h.shared hb),hf,λd hd u hu=>?_⟩;rcases List.mem_append.1 hd with hd|hd
  ·obtain⟨e,he,r⟩:=h.uses d hd u hu;exact⟨e,List.mem_append_left _ he,r⟩
  ·rcases hp.uses d hd u hu with⟨h0,h1,h2,h3⟩|⟨e,he,r⟩
   ·have hb:st.2=true:=by
     cases q:st.2 with
     |true=>rfl
     |false=>exact absurd ⟨h0,q⟩ hc
    exact⟨eE,List.mem_append_left _ (h.shared hb),h1.symm,by rw[zT,h2],(λhk=>by rw[h2]at hk;cases hk),λhk=>absurd hk h3⟩
   ·exact⟨e,List.mem_append_right _ he,r⟩
theorem SN(l:List Int)(st:List Df×Bool)(i:Nat):QO l st i=(if decide ((sR l (1+i) 4096).toNat%14=9)=true/\st.2=false then(st.1++fC ((sR l (1+i) 4096).toNat%14) i ((sR l (1+i) 4096).toNat / 14)++[eE],true)else(st.1++fC ((sR l (1+i) 4096).toNat%14) i ((sR l (1+i) 4096).toNat / 14),st.2)):=by
 unfold QO;simp only[decide_eq_true_eq]
theorem DU(l:List Int)(k:Nat):jR l (k+1)=QO l (jR l k) k:=by
 unfold jR;rw[List.range_succ,List.foldl_append];rfl
theorem wW(l:List Int):∀k,k<=3->Uf k (jR l k)
 |0,_=>⟨Nat.zero_le _,.nil,by simp[jR],by simp[jR],by simp[jR],by simp[jR]⟩
 |k+1,h=>by
  rw[DU,SN];exact(wW l k (by omega)).add (by omega) (HF (Nat.mod_lt _ (by decide)) (by omega))
theorem Fo(l:List Int)(i m:Int)(hm:0<m):0<=sR l i m/\sR l i m<m:=by
 unfold sR;split
 ·exact⟨Int.le_refl _,hm⟩
 ·exact sS _ _ hm
theorem wX(l:List Int):sD l<=3:=by
 have:=Fo l 0 3 (by decide);unfold sD;omega
theorem HI(l:List Int):dW (jR l (sD l)).1:=by
 have h:=wW l _ (wX l);have h3:=wX l;have hb:(jR l (sD l)).2.toNat<=1:=Bool.toNat_le _;refine⟨by have:=h.len;omega,h.names,h.fine,λd hd u hu=>?_,λd hd=>Nx λd hd u hu hc e he hn v hv=>?_⟩
 ·obtain⟨e,he,a,b,c,_⟩:=h.uses d hd u hu;exact⟨e,he,a,b,c⟩
 ·obtain⟨e2,he2,a,_,_,f⟩:=h.uses d hd u hu;have:e2=e:=by
   obtain⟨i,hi,rfl⟩:=List.getElem_of_mem he;obtain⟨j,hj,rfl⟩:=List.getElem_of_mem he2;have:=rX h.names hj hi (by rw[a,hn]);subst this;rfl
  subst this;exact f hc v hv
theorem HJ(l:List Int):(jR l (sD l)).1.length<=19:=by
 have h:=wW l _ (wX l);have h3:=wX l;have hb:(jR l (sD l)).2.toNat<=1:=Bool.toNat_le _;have:=h.len;omega
theorem QV{n:Nat}{b:Int}{i:Nat}(hi:i<n):nB n b i<n:=by
 unfold nB;have hm:(i+(iH b (n:Int)).toNat)%n<n:=Nat.mod_lt _ (by omega);simp only;split<;>omega
theorem Lh{x n:Nat}(h:x<2*n):x%n=if x<n then x else x-n:=by
 split
 ·exact Nat.mod_eq_of_lt ‹_›
 ·rw[Nat.mod_eq_sub_mod (by omega),Nat.mod_eq_of_lt (by omega)]
theorem ND{n:Nat}{b:Int}{i j:Nat}(hi:i<n)(hj:j<n)(h:nB n b i=nB n b j):i=j:=by
 unfold nB at h;have kl:=sS b (n:Int) (by omega);obtain⟨k,hk⟩:∃k:Nat,(iH b (n:Int)).toNat=k:=⟨_,rfl⟩;have hkn:k<n:=by omega
 rw[hk]at h;have e1:=Lh (x:=i+k) (n:=n) (by omega);have e2:=Lh (x:=j+k) (n:=n) (by omega);simp only at h;rw[e1,e2]at h;split at h<;>split at h<;>split at h<;>omega
theorem zV{α:Type}[DecidableEq α]:∀{a b:List α},a.Nodup->a⊆b->b.length<=a.length->a.Perm b
 |[],b,_,_,hl=>by
  have:b=[]:=List.eq_nil_of_length_eq_zero (by simpa using hl);rw[this]
 |x::r,b,hn,hs,hl=>by
  have hx:x∈b:=hs (List.mem_cons_self ..);have hp:=List.perm_cons_erase hx;refine(List.Perm.cons x (zV (List.nodup_cons.1 hn).2 (λy hy=>?_) ?_)).trans hp.symm
  ·have hy2:=hs (List.mem_cons_of_mem _ hy);have hne:y≠x:=λe=>(List.nodup_cons.1 hn).1 (e▸hy);exact(List.mem_erase_of_ne hne).2 hy2
  ·have:=hp.length_eq;simp only[List.length_cons]at this hl;omega
theorem QW:∀{n:Nat} {f:Nat->Nat},(∀i<n,f i<n)->(∀i<n,∀j<n,f i=f j->i=j)->((List.range n).map f).Perm (List.range n):=by
 intro n f h1 h2;have hnd:((List.range n).map f).Nodup:=by
  refine List.pairwise_iff_getElem.2 λi j hi hj hij=>?_;simp at hi hj|-;intro e;have:=h2 i hi j hj e;omega
 have hsub:(List.range n).map f⊆List.range n:=λx hx=>by
  obtain⟨i,hi,rfl⟩:=List.mem_map.1 hx;exact List.mem_range.2 (h1 i (List.mem_range.1 hi))
 exact zV hnd hsub (by simp)
theorem DW(l:List Df)(b:Int):(lA l b).Perm l:=by
 have h:=QW (n:=l.length) (f:=nB l.length b) (λi hi=>QV hi) λi hi j hj e=>ND hi hj e;have h2:=h.map λi=>l.getD i default;have e1:lA l b=((List.range l.length).map (nB l.length b)).map λi=>l.getD i default:=by unfold lA;rw[List.map_map];rfl
 have e2:(List.range l.length).map (λi=>l.getD i default)=l:=by
  refine List.ext_getElem (by simp) λi h1 h2=>?_;simp[List.getD_eq_getElem?_getD,h2]
 rw[e1];rw[e2]at h2;exact h2
theorem Kh(l:List Int):dW (NA l):=(HI l).perm (DW _ _).symm
theorem SO(l:List Int):(NA l).length<=19:=by
 have:=(DW (jR l (sD l)).1 (sR l 4 64)).length_eq;have:=HJ l;unfold NA;omega
section
attribute[local simp] hZ.cond Nd.d_eq nd_t nd_dr nd_td ndsD aO
theorem QX(T:List Tk)(l:List Int):spacedTo T l 0=[]:=rfl
attribute[local simp] QX
end
section
attribute[local simp] hZ.cond Nd.d_eq nd_t nd_dr nd_td ndsD aO
end
section
attribute[local simp] hZ.cond Nd.d_eq nd_t nd_dr nd_td ndsD aO
end
section
attribute[local simp] hZ.cond Nd.d_eq nd_t nd_dr nd_td ndsD aO bA bH
theorem QY(k i v:Nat)(hk:k<14)(hi:i<3):(fC k i v).length<=6:=(HF hk hi).len
theorem HK(l:List Int)(hl:Vp l):Ok Tryz.prog 22 [.sl (l.map aH)] ⟨.own 2 ((NA l).map Df.d),true⟩:=by
 refine bF Tryz.func22 rfl Tryz.ntmps22 Tryz.results22 λw0 X hp=>?_;have aN:=Fo l 0 3 (by decide);have kN:=Pq l 0 3 hl (by decide);have hN:(sD l:Int)=1+sR l 0 3:=by unfold sD;omega
 have hN3:=wX l;refine aA ?_;simp;refine aA ?_;simp;refine aA ?_;simp;refine aD ?_;refine aA ?_;simp;refine aL ?_;refine aS (ι:=Nat) (λi=>aQ [(0,.d (.sl (l.map aH))),(3,.ow 3 0 (jR l i).1.length),(4,.d (.bool (jR l i).2)),(5,.d (aH (i:Nat)))]) (λi=>aG [(3,.row false 2 ((jR l i).1.map Df.d))]) (λi=>i<=sD l) (λi=>sD l-i) 0 (aB hp [0,3,4,5] [(3,3)] (by simp[jR]) (by simp[jR])) (Nat.zero_le _) λi hi4=>?_;refine aD ?_;refine aX hT hW (λ|9=>some<| .plain ⟨.d (aH (sR l 0 3)),true⟩|_=>none) ?_;simp;refine⟨⟨by simpa using kN,by omega⟩,?_⟩;refine aC ?_;simp;refine⟨λh4=>?_,λh4=>?_⟩
 ·have hi:i<sD l:=by omega
  have an:=Fo l (1+i) 4096 (by decide);have kn:=Pq l (1+i) 4096 hl (by decide);obtain⟨n,hn⟩:∃n:Nat,sR l (1+i) 4096=(n:Int):=⟨(sR l (1+i) 4096).toNat,by omega⟩;rw[hn]at kn an;have hmod:(n:Int).tmod 14=((n%14:Nat):Int):=rfl;have hdiv:(n:Int).tdiv 14=((n / 14:Nat):Int):=rfl;obtain⟨k,hk⟩:∃k:Nat,n%14=k:=⟨_,rfl⟩;obtain⟨v,hv⟩:∃v:Nat,n / 14=v:=⟨_,rfl⟩;have hk14:k<14:=by omega
  rw[hk]at hmod;rw[hv]at hdiv;obtain⟨st,hst⟩:∃st,jR l i=st:=⟨_,rfl⟩;obtain⟨P,hP⟩:∃P,fC k i v=P:=⟨_,rfl⟩;have kp:=HA k i v hk14 (by omega) (by omega);rw[hP]at kp;have lP:P.length<=6:=by rw[<-hP];exact QY k i v hk14 (by omega)
  have lS:st.1.length<=19:=by
   have h:=(wW l i (by omega)).len;have hb:(jR l i).2.toNat<=1:=Bool.toNat_le _;rw[hst]at h hb;omega
  have hnx:jR l (i+1)=if k=9/\st.2=false then(st.1++P++[eE],true)else(st.1++P,st.2):=by
   rw[DU,hst];unfold QO;simp only[hn,Int.toNat_natCast,hk,hv,hP]
  rw[hst];refine aE ?_;simp;refine aZ (ι:=Unit) (λu=>aQ [(0,.d (.sl (l.map aH))),(3,.ow 3 0 (jR l (i+1)).1.length),(4,.d (.bool (jR l (i+1)).2)),(5,.d (aH (i:Nat)))]) (λu=>aG [(3,.row false 2 ((jR l (i+1)).1.map Df.d))]) (λu=>True) ?_ λu hc5=>?_
  ·refine aL ?_;refine aX hT hW (λ|17=>some<| .plain ⟨.d (aH (n:Int)),true⟩|_=>none) ?_;simp;refine⟨⟨by omega,by simpa using kn⟩,?_⟩;refine aX hT hW (λ|24=>some<| .plain ⟨.own 2 (P.map Df.d),true⟩|_=>none) ?_;simp[hmod,hdiv];refine⟨⟨⟨by omega,by simpa using kp⟩,by omega⟩,?_⟩;refine aA ?_;simp[hmod];refine aC ?_;simp;refine⟨λh8 h8b=>?_,λh8=>?_⟩
   ·rw[if_pos ⟨by omega,h8b⟩]at hnx;refine aA ?_;simp;refine⟨by omega,?_⟩;refine aM ?_;simp;exact(aB hp [0,3,4,5] [(36,3)] (by simp[hnx,Nat.add_assoc]) (by simp[hnx,eE,Df.d,List.take_of_length_le (show(List.map Df.d st.1++List.map Df.d P).length<=st.1.length+P.length by simp)]))
   ·rw[if_neg (λh=>by have:=h8 (by omega);rw[h.2]at this;cases this)]at hnx;refine aE ?_;simp;exact(aB hp [0,3,4,5] [(25,3)] (by simp[hnx]) (by simp[hnx]))
  ·refine aM ?_;simp;refine⟨by omega,?_⟩;refine Ks.mk (i+1) (aB hp [0,3,4,5] [(3,3)]) ?_ ?_
   ·omega
   ·omega
 ·refine bT ?_;simp;refine aD ?_;have e:i=sD l:=by omega
  subst e;have aT:=Fo l 4 64 (by decide);have kA:=Pq l 4 64 hl (by decide);have lO:=HJ l;have kT:=JU (jR l (sD l)).1 (sR l 4 64) (by omega) (by omega) (by omega);obtain⟨T,hT1⟩:∃T,lA (jR l (sD l)).1 (sR l 4 64)=T:=⟨_,rfl⟩;rw[hT1]at kT;obtain⟨O1,hO1⟩:∃O1,(jR l (sD l)).1=O1:=⟨_,rfl⟩;rw[hO1]at kT;have tO:List.take O1.length (List.map Df.d O1)=List.map Df.d O1:=List.take_of_length_le (by rw[List.length_map];exact Nat.le_refl _);refine eO.ro hT hW (λ|39=>some<| .plain ⟨.d (aH (sR l 4 64)),true⟩|40=>some<| .plain ⟨.own 2 (T.map Df.d),true⟩|_=>none) ?_;simp[hO1,tO];refine⟨⟨by simpa using kA,by simpa using kT⟩,?_⟩;refine aF ?_;simp[NA,hT1]
end
section
attribute[local simp] hZ.cond Nd.d_eq nd_t nd_dr nd_td ndsD aO bA bH
end
section
attribute[local simp] hZ.cond Nd.d_eq nd_t nd_dr nd_td ndsD aO bA bH
def qQ:List Df:=[⟨[97],[118,97,114,32,97,32,61,32,48,59]⟩,⟨[103],[114,101,99,32,103,32,123,32,110,32,61,32,49,59,32,125]⟩,⟨[112],[112,114,111,99,32,112,32,123,32,97,32,61,32,103,46,110,59,32,125]⟩,
 ⟨[113],[112,114,111,99,32,113,32,123,32,99,97,108,108,32,112,59,32,103,111,32,113,59,32,125]⟩,⟨[116],[116,101,115,116,32,116,32,123,32,99,97,108,108,32,112,59,32,99,104,101,99,107,32,97,32,61,61,32,49,59,32,125]⟩]
def Ta(t:aJ):List Df:=[qQ[0],qQ[1],⟨[112],t⟩,qQ[3],qQ[4]]
theorem Ce:Ok Tryz.prog 32 [] ⟨.own 2 (qQ.map Df.d),true⟩:=by
 refine bF Tryz.func32 rfl Tryz.ntmps32 Tryz.results32 λw0 X hp=>?_;refine aA ?_;simp;refine aA ?_;simp;refine⟨by decide,?_⟩;refine aF ?_;simp[qQ,Df.d]
theorem Fp(t:aJ):Ok Tryz.prog 33 [.str t] ⟨.own 2 ((Ta t).map Df.d),true⟩:=by
 refine bF Tryz.func33 rfl Tryz.ntmps33 Tryz.results33 λw0 X hp=>?_;refine aA ?_;simp;refine aX hT hW (λ|4=>some<| .plain ⟨.own 2 (qQ.map Df.d),true⟩|_=>none) ?_;simp;refine⟨Ce,?_⟩;refine aA ?_;simp;refine⟨⟨by decide,by decide⟩,?_⟩;refine aA ?_;simp;refine aF ?_;simp[Ta,qQ,Df.d]
end
set_option maxRecDepth 100000
theorem Ug:chkR qQ=(5,0):=by decide
theorem QZ:DN qQ [112]=([[97],[103]],0):=by decide
theorem Ra:DN qQ [116]=([[97],[112]],0):=by decide
theorem Rb:JQ qQ=[[116]]:=by decide
theorem Rc:rY qQ [116]=([qQ[0],qQ[1],qQ[2],qQ[4]],0):=by decide
theorem SP:chkR (Ta [112,114,111,99,32,112,32,123,32,97,32,61,32,103,46,109,59,32,125])=(2,6):=by decide
theorem SQ:chkR (Ta [112,114,111,99,32,112,32,123,32,97,32,61,32,116,59,32,125])=(2,12):=by decide
theorem SR:chkR (Ta [112,114,111,99,32,112,32,123,32,99,97,108,108,32,113,59,32,125])=(2,13):=by decide
theorem SS:chkR [qQ[0],qQ[2],qQ[3],qQ[4]]=(1,6):=by decide
theorem ST:BU (cM [⟨[97],[118,97,114,32,97,61,48,32,59]⟩]) (cM [qQ[0]])=true:=by decide
section
attribute[local simp] hZ.cond Nd.d_eq nd_t nd_dr nd_td ndsD aO UG
theorem qI(a b:List aJ):Ok Tryz.prog 11 [jS a,jS b] ⟨.d (.bool (decide (a=b))),true⟩:=by
 refine bF Tryz.func11 rfl Tryz.ntmps11 Tryz.results11 λw0 X hp=>?_;refine eO.len (t:=0) rfl λhlen=>?_;simp at hlen;refine aA ?_;simp;refine aD ?_;refine aA ?_;simp;refine aC ?_;simp;refine⟨λh1=>?_,λh1=>?_⟩
 ·refine aA ?_;simp;refine aF ?_;simp;exact λe=>h1 (by rw[e])
 ·refine aE ?_;simp;refine aD ?_;refine aA ?_;simp;refine aL ?_;refine aS (ι:=Nat) (λi=>aQ [(0,.d (jS a)),(1,.d (jS b)),(5,.d (aH i))]) (λi=>aG []) (λi=>i<=a.length/\a.take i=b.take i) (λi=>a.length-i) 0 (aB hp [0,1,5] []) (by simp) λi hi4=>?_;refine aD ?_;refine aA ?_;simp;refine aC ?_;simp;refine⟨λh4=>?_,λh4=>?_⟩
  ·refine aE ?_;simp;refine aD ?_;refine aL ?_;refine aD ?_;refine eO.rd [] [] (λ_=>none) ?_;simp[h4,show i<b.length by omega];refine aC ?_;simp;refine⟨λh6=>?_,λh6=>?_⟩
   ·refine aA ?_;simp;refine aF ?_;simp;intro e;subst e;simp at h6
   ·refine aE ?_;simp;refine aM ?_;simp;refine⟨by omega,?_⟩;refine Ks.mk (i+1) (aB hp [0,1,5] []) ?_ ?_
    ·exact⟨h4,Ew hi4.2 h4 (by omega) (by simpa using h6)⟩
    ·omega
  ·refine bT ?_;simp;refine aA ?_;simp;refine aF ?_;simp;have e:i=a.length:=by omega
   have:=hi4.2;rw[e,List.take_length]at this;have h1':a.length=b.length:=by omega
   rw[this,h1',List.take_length]
end
section
attribute[local simp] hZ.cond Nd.d_eq nd_t nd_dr nd_td ndsD aO bA bH
theorem pG{l:List Df}{a b:Int}(h:chkR l=(a,b)):Ok Tryz.prog 8 [eC l] ⟨.tup [.d (aH a),.d (aH b)],true⟩:=by
 have k:=QA l;rw[show(jK l).2=(a,b) from(JP l).trans h]at k;exact k
theorem NE:Ok Tryz.prog 10 [] ⟨.d (.bool true),true⟩:=by
 refine bF Tryz.func10 rfl Tryz.ntmps10 Tryz.results10 λw0 X hp=>?_;refine aA ?_;simp;refine aX hT hW (λ|19=>some<| .plain ⟨.own 2 (qQ.map Df.d),true⟩|_=>none) ?_;simp;refine⟨Ce,?_⟩;refine aX hT hW (λ|22=>some<| .plain ⟨.tup [.d (aH 5),.d (aH 0)],true⟩|_=>none) ?_;simp[aR];refine⟨by simpa using pG Ug,?_⟩;refine aD ?_;have k:=Fg qQ [112];rw[Fk,QZ]at k;refine eO.ro hT hW (λ|27=>some<| .plain ⟨.tup [.own 1 ([[97],[103]].map .str),.d (aH 0)],true⟩|_=>none) ?_;simp[aR];refine⟨by simpa using k,?_⟩;refine aD ?_;have k2:=Fg qQ [116];rw[Fk,Ra]at k2;refine eO.ro hT hW (λ|32=>some<| .plain ⟨.tup [.own 1 ([[97],[112]].map .str),.d (aH 0)],true⟩|_=>none) ?_;simp[aR];refine⟨by simpa using k2,?_⟩;refine aD ?_;have k3:=Slice_ok qQ [116] (by decide);rw[BY,Rc]at k3;obtain⟨sl,hsl⟩:∃sl,[qQ[0],qQ[1],qQ[2],qQ[4]]=sl:=⟨_,rfl⟩;rw[hsl]at k3;refine eO.ro hT hW (λ|37=>some<| .plain ⟨.tup [.own 2 (sl.map Df.d),.d (aH 0)],true⟩|_=>none) ?_;simp[aR];refine⟨by simpa using k3,?_⟩;refine aX hT hW (λ|41=>some<| .plain ⟨.own 2 ((Ta [112,114,111,99,32,112,32,123,32,97,32,61,32,103,46,109,59,32,125]).map Df.d),true⟩|42=>some<| .plain ⟨.tup [.d (aH 2),.d (aH 6)],true⟩|_=>none) ?_;simp[aR];refine⟨⟨Fp _,by simpa using pG SP⟩,?_⟩;refine aX hT hW (λ|46=>some<| .plain ⟨.own 2 ((Ta [112,114,111,99,32,112,32,123,32,97,32,61,32,116,59,32,125]).map Df.d),true⟩|47=>some<| .plain ⟨.tup [.d (aH 2),.d (aH 12)],true⟩|_=>none) ?_;simp[aR];refine⟨⟨Fp _,by simpa using pG SQ⟩,?_⟩;refine aX hT hW (λ|51=>some<| .plain ⟨.own 2 ((Ta [112,114,111,99,32,112,32,123,32,99,97,108,108,32,113,59,32,125]).map Df.d),true⟩|52=>some<| .plain ⟨.tup [.d (aH 2),.d (aH 13)],true⟩|_=>none) ?_;simp[aR];refine⟨⟨Fp _,by simpa using pG SR⟩,?_⟩;refine aD ?_;refine eO.rd [[60],[56],[56],[56],[56],[],[56,60,61],[56,60,61]] [[56],[],[],[],[60],[56,61],[],[],[61,64],[65]] (λ|65=>some<| .plain ⟨.tup [.d (aH 1),.d (aH 6)],true⟩|_=>none) ?_;simp[aR,qQ,Df.d]
 refine⟨by simpa [qQ,Df.d]using pG SS,?_⟩;refine aD ?_;refine aA ?_;simp;refine aC ?_;simp;refine aE ?_;simp;refine aD ?_;have kt:=QB qQ;rw[QG,Rb]at kt;have s1:=qI [[116]] [[116]];have s2:=qI [[97],[103]] [[97],[103]];have s3:=qI [[97],[112]] [[97],[112]];simp[qQ,Df.d]at kt;simp at s1 s2 s3;refine eO.ro hT hW (λ|119=>some<| .plain ⟨.own 1 [.str [116]],true⟩|121=>some<| .plain ⟨.d (.bool true),true⟩|125=>some<| .plain ⟨.d (.bool true),true⟩|130=>some<| .plain ⟨.d (.bool true),true⟩|_=>none) ?_;simp;refine⟨by(repeat' with_reducible apply And.intro)<;>first|with_reducible assumption|decide,?_⟩;refine aD ?_;have sd:=RSameDefs_ok sl sl (by rw[<-hsl];decide);have sm:=Nv [⟨[97],[118,97,114,32,97,61,48,32,59]⟩] [qQ[0]] (by decide) (by decide);rw[ST]at sm;simp[<-hsl,qQ,Df.d]at sd sm;refine eO.rd [[],[],[147],[],[],[],[],[],[],[],[],[],[],[],[],[],[],[],[],[],[],[152],[152]] [[],[],[],[],[],[],[],[],[],[],[],[],[],[],[],[147],[148],[],[],[],[152],[],[],[155]] (λ|148=>some<| .plain ⟨.d (.bool true),true⟩|155=>some<| .plain ⟨.d (.bool true),true⟩|_=>none) ?_;simp[<-hsl,qQ,Df.d];refine⟨by(repeat' with_reducible apply And.intro)<;>first|with_reducible assumption|decide,?_⟩;refine aF ?_;simp
end
section
attribute[local simp] hZ.cond Nd.d_eq nd_t nd_dr nd_td ndsD aO bA bH
theorem sE{l:List Df}(h:dW l){d:Df}(hd:d∈l)(hl:l.length<20):Ok Tryz.prog 20 [eC l,.str d.name] ⟨.tup [.own 2 ((eJ l d.name).map Df.d),.d (aH 0)],true⟩:=by
 have k:=Slice_ok l d.name hl;rw[BY,Lc h hd]at k;exact k
theorem Ki{l:List Df}(h:dW l){x:Df}(hx:x∈l):Ok Tryz.prog 18 [eC l,.str x.name] ⟨.tup [.own 1 ((oA (aW (treeD x))).map .str),.d (aH 0)],true⟩:=by
 have k:=Fg l x.name;rw[Fk,TZ h hx]at k;exact k
theorem NF{l:List Df}(h:dW l):Ok Tryz.prog 8 [eC l] ⟨.tup [.d (aH l.length),.d (aH 0)],true⟩:=pG (TX (vB.2 h))
theorem NG(l:List Df)(hn:(l.map Df.name).Nodup)(hl:l.length<=1000):Ok Tryz.prog 23 [eC l] ⟨.tup [.own 1 ((l.map Df.name).map .str),.d (.bool true)],true⟩:=by
 obtain⟨N,hN⟩:∃N,l.map Df.name=N:=⟨_,rfl⟩;rw[hN]at hn|-;have hNl:N.length=l.length:=by rw[<-hN];simp
 refine Ok.two Tryz.func23 (by kernel_rfl) (c:=_) rfl Tryz.ntmps23 (by simp) Tryz.results23 rfl λw0 X hp=>?_;refine aA ?_;simp;refine aA ?_;simp;refine aD ?_;refine aA ?_;simp;refine aL ?_;refine aS (ι:=Nat) (λi=>aQ [(0,.d (eC l)),(4,.ow 4 0 i),(5,.d (aH (i:Nat)))]) (λi=>aG [(4,.row false 1 ((N.take i).map .str))]) (λi=>i<=l.length) (λi=>l.length-i) 0 (aB hp [0,4,5] [(4,4)]) (Nat.zero_le _) λi hi3=>?_;refine aD ?_;refine aA ?_;simp;refine aC ?_;simp;refine⟨λh3=>?_,λh3=>?_⟩
 ·refine aE ?_;simp;refine aD ?_;refine aL ?_;refine aD ?_;refine aD ?_;have hi:i<l.length:=by omega
  obtain⟨x,hx⟩:∃x,l[i]=x:=⟨_,rfl⟩;have hxN:N[i]'(by omega)=x.name:=by simp[<-hN,hx]
  have hno:x.name∉N.take i:=by
   have h2:=(nodup_take_succ (f:=N) (k:=i) (by omega)).1 (nodup_take hn (i+1));rw[hxN]at h2;exact h2.2
  have kin:=BB (N.take i) x.name;rw[decide_eq_false hno]at kin;have hns:N.take (i+1)=N.take i++[x.name]:=by rw[List.take_succ_eq_append_getElem (by omega),hxN]
  have hnd:List.take (i+1) (List.map DV.str N)=List.take i (List.map DV.str N)++[.str x.name]:=by rw[<-List.map_take,hns,List.map_append,List.map_take];rfl
  have hnl:(N.take i).length=i:=by rw[List.length_take];omega
  have hmt:List.take i (List.take i (List.map DV.str N))=List.take i (List.map DV.str N):=by rw[List.take_take,Nat.min_self]
  refine eO.ro hT hW (λ|18=>some<| .plain ⟨.d (.bool false),true⟩|_=>none) ?_;simp[hi,hx,hmt];refine⟨by simpa using kin,?_⟩;refine aC ?_;simp;refine aE ?_;simp;refine aM ?_;simp[hi,hx,hmt];refine⟨by omega,?_⟩;refine aM ?_;simp;refine⟨by omega,?_⟩;refine Ks.mk (i+1) (aB hp [0,4,5] [(27,4)] (hH:=by simp[hnd,List.take_take])) ?_ ?_
  ·omega
  ·omega
 ·refine bT ?_;simp;refine aA ?_;simp;refine aF ?_;have e:i=N.length:=by omega
  have htk:List.take N.length (List.map DV.str N)=List.map DV.str N:=List.take_of_length_le (by simp);simp[e,htk]
theorem Rd(l:List Int)(out:Int)(hl:Vp l)(ho:UH out):Ok Tryz.prog 6 [.sl (l.map aH),aH out] ⟨.d (.bool true),true⟩:=by
 refine bF Tryz.func6 rfl Tryz.ntmps6 Tryz.results6 λw0 X hp=>?_;unfold UH at ho;have kp:=HK l hl;have ha:=Kh l;have hal:=SO l;obtain⟨a,hae⟩:∃a,NA l=a:=⟨_,rfl⟩;rw[hae]at kp ha hal;have htk:List.take a.length (List.map Df.d a)=List.map Df.d a:=List.take_of_length_le (by simp);refine aA ?_;simp;refine aX hT hW (λ|26=>some<| .plain ⟨.own 2 (a.map Df.d),true⟩|_=>none) ?_;simp;refine⟨by simpa using kp,?_⟩;refine dT (fI.close 5 (x:=eC a) (by simp[htk])) ?_;simp;refine aD ?_;refine aA ?_;simp;refine aL ?_;refine aS (ι:=Nat) (λi=>aQ [(1,.d (aH out)),(5,.d (eC a)),(6,.d (aH (i:Nat)))]) (λi=>aG []) (λi=>i<=a.length) (λi=>a.length-i) 0 (aB hp [1,5,6] []) (Nat.zero_le _) λi hi3=>?_;refine aD ?_;refine aA ?_;simp;refine aC ?_;simp;refine⟨λh3=>?_,λh3=>?_⟩
 ·refine aE ?_;simp;refine aD ?_;refine aL ?_;refine aD ?_;have hi:i<a.length:=by omega
  obtain⟨d,hd⟩:∃d,a[i]=d:=⟨_,rfl⟩;have hda:d∈a:=hd▸List.getElem_mem hi;have ks:=sE ha hda (by omega);have hsb:=wV ha hda;have hsl:=Ca ha hda;have hown:=wU ha hda;have hme:=Ua (l:=a) d;obtain⟨s,hs⟩:∃s,eJ a d.name=s:=⟨_,rfl⟩;rw[hs]at ks hsb hsl hown;have hsk:List.take s.length (List.map Df.d s)=List.map Df.d s:=List.take_of_length_le (by simp);obtain⟨w,hw⟩:∃w,jM a d.name=w:=⟨_,rfl⟩;rw[hw]at hown hme;have hwl:w.length=s.length:=by rw[<-hown];simp
  have hwk:List.take w.length (List.map DV.str w)=List.map DV.str w:=List.take_of_length_le (by simp);refine eO.ro hT hW (λ|40=>some<| .plain ⟨.tup [.own 2 (s.map Df.d),.d (aH 0)],true⟩|_=>none) ?_;simp[aR,hi,hd];refine⟨by simpa using ks,?_⟩;refine dT (fI.close 7 (x:=eC s) (by simp[hsk])) ?_;simp;refine aD ?_;have kc:=NF hsb;refine eO.ro hT hW (λ|45=>some<| .plain ⟨.tup [.d (aH s.length),.d (aH 0)],true⟩|_=>none) ?_;simp[aR];refine⟨by simpa using kc,?_⟩;refine aD ?_;refine aA ?_;simp[hsl];refine aC ?_;simp;refine⟨λh7=>by omega,λ_=>?_⟩;refine aE ?_;simp;refine aD ?_;have kn:=NG s hsb.names (by omega);rw[hown]at kn;refine eO.ro hT hW (λ|68=>some<| .plain ⟨.tup [.own 1 (w.map .str),.d (.bool true)],true⟩|_=>none) ?_;simp[aR];refine⟨by simpa using kn,?_⟩;refine dT (fI.close 11 (x:=jS w) (by simp[hwk])) ?_;simp;refine aD ?_;refine aD ?_;have ki:=BB w d.name;rw[decide_eq_true hme]at ki;refine eO.ro hT hW (λ|77=>some<| .plain ⟨.d (.bool true),true⟩|_=>none) ?_;simp[hi,hd];refine⟨by simpa using ki,?_⟩;refine aC ?_;simp;refine aE ?_;simp;refine aD ?_;refine aA ?_;simp;refine aL ?_;refine aS (ι:=Nat) (λj=>aQ [(1,.d (aH out)),(5,.d (eC a)),(6,.d (aH (i:Nat))),(7,.d (eC s)),(11,.d (jS w)),(13,.d (aH (j:Nat)))]) (λj=>aG []) (λj=>j<=s.length) (λj=>s.length-j) 0 (aB hp [1,5,6,7,11,13] []) (Nat.zero_le _) λj hi13=>?_;refine aD ?_;refine aA ?_;simp;refine aC ?_;simp;refine⟨λh13=>?_,λh13=>?_⟩
  ·refine aE ?_;simp;refine aD ?_;refine aL ?_;refine aD ?_;have hj:j<s.length:=by omega
   obtain⟨x,hx⟩:∃x,s[j]=x:=⟨_,rfl⟩;have hxs:x∈s:=hx▸List.getElem_mem hj;have hxs':x∈eJ a d.name:=by rw[hs];exact hxs
   have hxa:x∈a:=((eD ha hda).1 hxs').1;have ku:=Ki hsb hxs;have kt:=sE hsb hxs (by omega);have kw:=sE ha hxa (by omega);have hin:=QJ ha hda hxs';have hus:∀q∈oA (aW (treeD x)),q∈w:=λq hq=>by rw[<-hw];exact QK ha hda hxs' hq
   have hul:=yG (rising_nodup aJ.sto (rZ (aW (treeD x))).1) hus;rw[hs]at hin;rw[hin]at kt;obtain⟨u,hu⟩:∃u,oA (aW (treeD x))=u:=⟨_,rfl⟩;rw[hu]at ku hus hul;obtain⟨t,ht⟩:∃t,eJ a x.name=t:=⟨_,rfl⟩;rw[ht]at kt kw;have htl:=Ca ha hxa;rw[ht]at htl;have huk:List.take u.length (List.map DV.str u)=List.map DV.str u:=List.take_of_length_le (by simp);have htt:List.take t.length (List.map Df.d t)=List.map Df.d t:=List.take_of_length_le (by simp);refine eO.ro hT hW (λ|92=>some<| .plain ⟨.tup [.own 1 (u.map .str),.d (aH 0)],true⟩|_=>none) ?_;simp[aR,hj,hx];refine⟨by simpa using ku,?_⟩;refine dT (fI.close 14 (x:=jS u) (by simp[huk])) ?_;simp;refine aX hT hW (λ|102=>some<| .plain ⟨.tup [.own 2 (t.map Df.d),.d (aH 0)],true⟩|_=>none) ?_;simp[aR,hj,hx];refine⟨by simpa using kt,?_⟩;refine dT (fI.close 16 (x:=eC t) (by simp[htt])) ?_;simp;refine aX hT hW (λ|112=>some<| .plain ⟨.tup [.own 2 (t.map Df.d),.d (aH 0)],true⟩|_=>none) ?_;simp[aR,hj,hx];refine⟨by simpa using kw,?_⟩;refine dT (fI.close 18 (x:=eC t) (by simp[htt])) ?_;simp;refine aD ?_;refine aD ?_;have kd:=RSameDefs_ok t t (by omega);refine eO.ro hT hW (λ|128=>some<| .plain ⟨.d (.bool true),true⟩|_=>none) ?_;simp;refine⟨by simpa using kd,?_⟩;refine aC ?_;simp;refine aE ?_;simp;refine aA ?_;simp;refine aL ?_;refine aS (ι:=Nat) (λm=>aQ [(1,.d (aH out)),(5,.d (eC a)),(6,.d (aH (i:Nat))),(7,.d (eC s)),(11,.d (jS w)),(13,.d (aH (j:Nat))),(14,.d (jS u)),(20,.d (aH (m:Nat)))]) (λm=>aG []) (λm=>m<=u.length) (λm=>u.length-m) 0 (aB hp [1,5,6,7,11,13,14,20] []) (Nat.zero_le _) λm hi21=>?_;refine aD ?_;refine aA ?_;simp;refine aC ?_;simp;refine⟨λh21=>?_,λh21=>?_⟩
   ·refine aE ?_;simp;refine aD ?_;refine aL ?_;refine aD ?_;have hm:m<u.length:=by omega
    obtain⟨q,hq⟩:∃q,u[m]=q:=⟨_,rfl⟩;have kq:=BB w q;rw[decide_eq_true (hus q (hq▸List.getElem_mem hm))]at kq;refine eO.ro hT hW (λ|142=>some<| .plain ⟨.d (.bool true),true⟩|_=>none) ?_;simp[hm,hq];refine⟨by simpa using kq,?_⟩;refine aC ?_;simp;refine aE ?_;simp;refine aM ?_;simp;refine⟨by omega,?_⟩;refine Ks.mk (m+1) (aB hp [1,5,6,7,11,13,14,20] []) ?_ ?_
    ·omega
    ·omega
   ·refine bT ?_;simp;refine aM ?_;simp;refine⟨by omega,?_⟩;refine Ks.mk (j+1) (aB hp [1,5,6,7,11,13] []) ?_ ?_
    ·omega
    ·omega
  ·refine bT ?_;simp;refine aD ?_;have hpos:0<a.length:=by omega
   have ak:=sS out (a.length:Int) (by omega);have kk:=xL out (a.length:Int) ho.1 ho.2 (by omega);obtain⟨k,hk⟩:∃k:Nat,iH out (a.length:Int)=(k:Int):=⟨(iH out (a.length:Int)).toNat,by omega⟩;rw[hk]at ak kk;have hkl:k<a.length:=by omega
   obtain⟨y,hy⟩:∃y,a[k]=y:=⟨_,rfl⟩;obtain⟨r,hr⟩:∃r,a.eraseIdx k=r:=⟨_,rfl⟩;have hrl:r.length=a.length-1:=by rw[<-hr,List.length_eraseIdx];simp[hkl]
   have hrm:List.take k (List.map Df.d a)++List.drop (k+1) (List.map Df.d a)=List.map Df.d r:=by
    rw[<-hr,List.eraseIdx_eq_take_drop_succ,List.map_append,List.map_take,List.map_drop]
   have hrm2:List.take (min k a.length+(a.length-(k+1))) (List.take (min k a.length) (List.take k (List.map Df.d a))++List.drop (k+1) (List.map Df.d a))=List.map Df.d r:=by
    rw[Nat.min_eq_left (by omega),List.take_take,Nat.min_self,hrm];exact List.take_of_length_le (by rw[List.length_map,hrl];omega)
   have ke:=Slice_ok r d.name (by omega);rw[BY]at ke;obtain⟨z,hz⟩:∃z,rY r d.name=z:=⟨_,rfl⟩;have hout:y.name∉w->z.2=0->s=z.1:=λh1 h2=>by
    obtain⟨hb,e,he,hn⟩:=QI (l:=r) (nm:=d.name) (by rw[hz];exact h2);have h3:=Lc hb he;rw[hn,hz]at h3;rw[h3,<-hs,<-hr];exact(Ny ha hda hkl (by rw[hr];exact hb) (by rw[hy,hw];exact h1)).symm
   rw[hz]at ke;have hzk:List.take z.1.length (List.map Df.d z.1)=List.map Df.d z.1:=List.take_of_length_le (by simp);refine eO.ro hT hW (λ|147=>some<| .plain ⟨.d (aH (k:Int)),true⟩|_=>none) ?_;simp;refine⟨by simpa using kk,?_⟩;refine aD ?_;refine eO.rd [[],[148],[148],[148],[],[148,152],[148,152],[148,152],[148,152]] [[148],[],[],[],[148,152],[],[],[],[],[152,157]] (λ_=>none) ?_;simp;refine⟨by(repeat' with_reducible apply And.intro)<;>first|omega|rfl,?_⟩;refine dT (fI.close 22 (x:=eC r) (by simp[hrm2])) ?_;simp;refine aX hT hW (λ|165=>some<| .plain ⟨.tup [.own 2 (z.1.map Df.d),.d (aH z.2)],true⟩|_=>none) ?_;simp[aR,hi,hd];refine⟨by simpa using ke,?_⟩;refine dT (fI.close 23 (x:=eC z.1) (by simp[hzk])) ?_;simp;refine aD ?_;have ky:=BB w y.name;have kd2:=RSameDefs_ok s z.1 (by omega);refine eO.ro hT hW (λ|174=>some<| .plain ⟨.d (.bool (decide (y.name∈w))),true⟩|183=>some<| .plain ⟨.d (.bool (decide (s=z.1))),true⟩|_=>none) ?_;simp[hkl,hy];refine⟨by(repeat' with_reducible apply And.intro)<;>first|omega|with_reducible assumption|simpa using ky|(intros;simpa using kd2),?_⟩;refine aC ?_;simp;refine⟨λh1 h2 h3=>absurd (hout h1 h2) h3,λh28=>?_⟩;refine aE ?_;simp;refine aM ?_;simp;refine⟨by omega,?_⟩;refine Ks.mk (i+1) (aB hp [1,5,6] []) ?_ ?_
   ·omega
   ·omega
 ·refine bT ?_;simp;refine aD ?_;have hlv:=NE;refine eO.ro hT hW (λ|186=>some<| .plain ⟨.d (.bool true),true⟩|_=>none) ?_;simp;refine⟨hlv,?_⟩;refine aF ?_;simp
end
open Go.RowKit
def Fq(P:Program):List Field->Nat->Bool
 |[],_=>true
 |f::r,o=>f.offset==o&&Fq P r (o+P.cellsOf f.type)
def sF(P:Program):Nat->TypeId->DataW Unit->Option (List Value)
 |0,_,_=>none
 |n+1,t,d=>match P.underlying t,d with
  |some (.int _),.lit (.int k z)=>some [.int k z]
  |some .string,.lit (.string s)=>some [.string ⟨s.toArray⟩]
  |some (.array _ e),.agg ds=>match ds.mapM (sF P n e)with
   |some xs=>if xs.all (λx=>x.length==P.cellsOf e)&&xs.length*P.cellsOf e==P.cellsOf t then some xs.flatten else none
   |none=>none
  |some (.struct fs),.agg ds=>match(fs.toList.zip ds).mapM (λp=>sF P n p.1.type p.2)with
   |some xs=>if Fq P fs.toList 0&&xs.flatten.length==P.cellsOf t&&((fs.toList.zip xs).all λp=>p.2.length==P.cellsOf p.1.type)&&ds.length==fs.size then some xs.flatten else none
   |none=>none
  |_,_=>none
theorem DX{c:Nat}:∀(xs:List (List Value)) (cs:List Value),cs.length=xs.length*c->(∀(i:Nat) (x:List Value),xs[i]? =some x->(cs.drop (i*c)).take c=x)->cs=xs.flatten
 |[],cs,hl,_=>by
  have:cs=[]:=List.eq_nil_of_length_eq_zero (by simpa using hl);simp[this]
 |x::xs,cs,hl,h=>by
  have h0:=h 0 x rfl;simp only[Nat.zero_mul,List.drop_zero]at h0;have hr:=DX (c:=c) xs (cs.drop c) (by rw[List.length_drop,hl,List.length_cons,Nat.succ_mul];omega) λi y hy=>by
   have:=h (i+1) y (by simpa using hy);rw[List.drop_drop,Nat.add_comm c,<-Nat.succ_mul];exact this
  rw[List.flatten_cons,<-hr,<-h0,List.take_append_drop]
theorem zW{P:Program}{cs:List Value}:∀(fs:List Field) (xs:List (List Value)) (o:Nat),Fq P fs o=true->xs.length=fs.length->(∀(i:Nat) (f:Field) (x:List Value),fs[i]? =some f->xs[i]? =some x->(cs.drop f.offset).take (P.cellsOf f.type)=x/\x.length=P.cellsOf f.type)->
 (cs.drop o).take xs.flatten.length=xs.flatten
 |[],[],_,_,_,_=>by simp
 |[],_::_,_,_,h,_=>by simp at h
 |_::_,[],_,_,h,_=>by simp at h
 |f::fs,x::xs,o,ho,hl,h=>by
  simp only[Fq,Bool.and_eq_true,beq_iff_eq]at ho;obtain⟨h1,h2⟩:=h 0 f x rfl rfl;have hr:=zW fs xs (o+P.cellsOf f.type) ho.2 (by simpa using hl) λi g y hg hy=>h (i+1) g y (by simpa using hg) (by simpa using hy);rw[ho.1]at h1;rw[List.flatten_cons,List.length_append,List.take_add,h2,h1,List.drop_drop,hr]
theorem NH{enc:TypeId×Value->Unit}{P:Program}{w:World}{base:Nat}{sp:Nat->Bool}{held:Bool}:∀(n fuel:Nat) (t:TypeId) (cs:List Value) (d:DataW Unit) (p:List MemPlace) (vs:List Value),
 DataW.trod enc P w base sp held fuel t cs=some (d,p)->sF P n t d=some vs->cs=vs:=by
 intro n;induction n with
 |zero=>intro fuel t cs d p vs _ h;cases h
 |succ n ih=>
  intro fuel t cs d p vs ht hv;unfold sF at hv;split at hv
  ·rename_i k' k z hu;obtain⟨m,rfl,hx,_⟩:=DataW.trod_int hu ht;injection hx with e1 e2
   injection e1 with e1
   injection e1 with e3 e4
   subst e3 e4;exact Option.some.inj hv
  ·rename_i s hu;obtain⟨b,rfl,hx,_⟩:=DataW.trod_string hu ht;injection hx with e1 e2
   injection e1 with e1
   injection e1 with e3
   subst e3;exact Option.some.inj hv
  ·rename_i m e ds hu;cases fuel with
   |zero=>simp[DataW.trod]at ht
   |succ fuel=>
    unfold DataW.trod at ht;rw[hu]at ht;simp only at ht;split at ht
    ·rename_i hl;obtain⟨ys,hm,hx⟩:=Option.map_eq_some_iff.1 ht;have hds:ys.map (·.1)=ds:=by
      have:=congrArg Prod.fst hx;simpa using this
     split at hv
     ·rename_i xs hxs;split at hv
      ·rename_i hc;simp only[Bool.and_eq_true,List.all_eq_true,beq_iff_eq]at hc;have hv:=Option.some.inj hv;rw[<-hv];have hyl:ys.length=m:=by simpa using Lib.mapM_length hm
       have hxl:xs.length=ds.length:=Lib.mapM_length hxs;have hdl:ds.length=m:=by rw[<-hds,List.length_map,hyl]
       refine DX (c:=P.cellsOf e) xs cs (by rw[hl,hc.2]) λi x hx'=>?_;have hi:i<m:=by have:=(List.getElem?_eq_some_iff.1 hx').1;omega
       obtain⟨y,hy,hf⟩:=Lib.mapM_at hm i i (by simp[hi]);have hdi:ds[i]? =some y.1:=by rw[<-hds,List.getElem?_map,hy];rfl
       obtain⟨x2,hx2,hlc⟩:=Lib.mapM_at hxs i _ hdi;have:x2=x:=Option.some.inj (hx2.symm.trans hx');subst this;exact ih fuel e _ y.1 y.2 x2 hf hlc
      ·cases hv
     ·cases hv
    ·cases ht
  ·rename_i fs ds hu;obtain⟨ys,m,rfl,hx,hl,hyl,hf⟩:=DataW.trod_struct hu ht;have hds:ys.map (·.1)=ds:=by
    have:=congrArg Prod.fst hx;simpa using this.symm
   split at hv
   ·rename_i xs hxs;split at hv
    ·rename_i hc;simp only[Bool.and_eq_true,List.all_eq_true,beq_iff_eq]at hc;obtain⟨⟨⟨c1,c2⟩,c3⟩,c4⟩:=hc;have hv:=Option.some.inj hv;rw[<-hv];have hxl:xs.length=(fs.toList.zip ds).length:=Lib.mapM_length hxs;have hzl:(fs.toList.zip ds).length=fs.size:=by rw[List.length_zip,c4];simp
     have key:=zW (P:=P) (cs:=cs) fs.toList xs 0 c1 (by rw[hxl,hzl];simp) λi f x hfi hxi=>by
      have hfa:fs[i]? =some f:=by simpa using hfi
      have hyi:=hf i f hfa;have hi:i<fs.size:=(Array.getElem?_eq_some_iff.1 hfa).1;obtain⟨y,hy⟩:∃y,ys[i]? =some y:=⟨_,List.getElem?_eq_getElem (by omega)⟩;rw[hy]at hyi;have hdi:ds[i]? =some y.1:=by rw[<-hds,List.getElem?_map,hy];rfl
      have hz:(fs.toList.zip ds)[i]? =some (f,y.1):=by
       rw[List.getElem?_zip_eq_some];exact⟨hfi,hdi⟩
      obtain⟨x2,hx2,hlc⟩:=Lib.mapM_at hxs i _ hz;have:x2=x:=Option.some.inj (hx2.symm.trans hxi);subst this;refine⟨ih m f.type _ _ _ x2 hyi hlc,?_⟩;have hz2:(fs.toList.zip xs)[i]? =some (f,x2):=by
       rw[List.getElem?_zip_eq_some];exact⟨hfi,hxi⟩
      exact c3 _ (List.mem_of_getElem? hz2)
     rw[List.drop_zero,c2,<-hl,List.take_length]at key;exact key
    ·cases hv
   ·cases hv
  ·cases hv
def Re:DV->Value
 | .int k n=>.int k n
 | .str s=>.string ⟨s.toArray⟩
 |_=>undef
def UJ:DV->Bool
 | .int _ _=>true
 | .str _=>true
 |_=>false
theorem pH{P:Program}{W:World}{name:String}{g g':Nat}{t t':TypeId}{cs:Array Value}{fuel n:Nat}{p:List MemPlace}{d:DataW Unit}{ds:List DV}{enc:TypeId×Value->Unit}{base:Nat}{sp:Nat->Bool}{held:Bool}
 (hg:P.globalNamed name=some g)(hty:(P.globals[g]?).map (·.type)=some t)(hg':P.globalNamed name=some g')(ht':(P.globals[g']?).map (·.type)=some t')(hvar:W.var? P name=some cs)
 (hd:DataW.trod enc P W base sp held fuel t' cs.toList=some (d,p))(hlit:sF P n t d=some (ds.map Re))(hfl:ds.all UJ=true):
 RD W (λ_=>False) (.ro ds) (.pointer (some ⟨g,0,none⟩))/\∃arr t fz,W.heap[g]? =some (.cells arr t fz)/\arr.size=ds.length:=by
 obtain rfl:=Option.some.inj (hg.symm.trans hg');obtain rfl:=Option.some.inj (hty.symm.trans ht');have hc:=NH n fuel t cs.toList d p _ hd hlit;have hsz:cs.size=ds.length:=by
  have:=congrArg List.length hc;simpa using this
 have hblk:∃ty fz,W.heap[g]? =some (.cells cs ty fz):=by
  unfold World.var? at hvar;rw[hg]at hvar;simp only[Option.bind_some]at hvar;split at hvar
  ·rename_i c ty fz hh;cases hvar;exact⟨ty,fz,hh⟩
  ·cases hvar
 obtain⟨ty,fz,hblk⟩:=hblk;refine⟨.ro ds g 0 (ds.map Re) (λh=>h) (by simp) (λu hu=>?_) (Array.getElem?_eq_some_iff.1 hblk).1 (λj u hj=>?_) (λi x v hx hv=>?_),cs,ty,fz,hblk,hsz⟩
 ·obtain⟨x,hx,rfl⟩:=List.mem_map.1 hu;have:=List.all_eq_true.1 hfl x hx;cases x<;>first|rfl|cases this
 ·have:=World.var?_cell hg hvar j;rw[Nat.zero_add,this,<-hj,<-hc];simp
 ·rw[List.getElem?_map,hx]at hv;cases hv;have:=List.all_eq_true.1 hfl x (List.mem_of_getElem? hx);cases x with
  |int k n=>exact .int k n
  |str s=>exact .str s
  |_=>cases this
end Go.Eng
namespace Go.Proofs.YtjdlbidjlfllcaaGreatDoor.crA
open Go.Eng
theorem gl{W:World}(h:laidMetH Tryz.prog Rows.typingWholeRow.laid W):tW W (λ_=>False):=by
 have h:laidMet Tryz.prog Rows.typingWholeRow.laid W:=h;obtain⟨ps,⟨g1,t1,c1,f1,p1,q1,n1,y1,v1,d1,⟨g2,t2,c2,f2,p2,q2,n2,y2,v2,d2,⟨g3,t3,c3,f3,p3,q3,n3,y3,v3,d3,⟨g4,t4,c4,f4,p4,q4,n4,y4,v4,d4,⟨g5,t5,c5,f5,p5,q5,n5,y5,v5,d5,⟨g6,t6,c6,f6,p6,q6,n6,y6,v6,d6,⟨g7,t7,c7,f7,p7,q7,n7,y7,v7,d7,⟨g8,t8,c8,f8,p8,q8,n8,y8,v8,d8,_,_⟩,_⟩,_⟩,_⟩,_⟩,_⟩,_⟩,_⟩,_⟩:=h;intro n cs hn
 match n,hn with
 |0,hn=>cases hn;exact pH (n:=4) (g:=0) (t:=170) (by kernel_rfl) (by kernel_rfl) n6 y6 v6 d6 (by kernel_rfl) (by kernel_rfl)
 |1,hn=>cases hn;exact pH (n:=4) (g:=1) (t:=191) (by kernel_rfl) (by kernel_rfl) n8 y8 v8 d8 (by kernel_rfl) (by kernel_rfl)
 |2,hn=>cases hn
 |3,hn=>cases hn;exact pH (n:=4) (g:=3) (t:=219) (by kernel_rfl) (by kernel_rfl) n7 y7 v7 d7 (by kernel_rfl) (by kernel_rfl)
 |4,hn=>cases hn
 |5,hn=>cases hn
 |6,hn=>cases hn;exact pH (n:=4) (g:=6) (t:=237) (by kernel_rfl) (by kernel_rfl) n3 y3 v3 d3 (by kernel_rfl) (by kernel_rfl)
 |7,hn=>cases hn;exact pH (n:=4) (g:=7) (t:=239) (by kernel_rfl) (by kernel_rfl) n1 y1 v1 d1 (by kernel_rfl) (by kernel_rfl)
 |8,hn=>cases hn;exact pH (n:=4) (g:=8) (t:=240) (by kernel_rfl) (by kernel_rfl) n2 y2 v2 d2 (by kernel_rfl) (by kernel_rfl)
 |n+9,hn=>cases hn
abbrev rangeS:ByteArray:={data:= #[118,97,108,117,101,32,111,117,116,32,111,102,32,114,97,110,103,101]}
abbrev syntaxS:ByteArray:={data:= #[105,110,118,97,108,105,100,32,115,121,110,116,97,120]}
noncomputable def low:Nat:=(World.holding Tryz.prog default ⟨#[],#[],[]⟩).heap.size
noncomputable def held(g:Nat)(cs:Array Value):Array Value:=match g with
 |4=> #[.iface 233 (.pointer (some ⟨low+1,0,none⟩))]
 |5=> #[.iface 233 (.pointer (some ⟨low,0,none⟩))]
 |g=>match globD g with
  |some ds=>(ds.map Re).toArray
  |none=>cs
noncomputable def laidObj(h:Array Obj)(g:Nat):Array Obj:=h.modify g λ
 | .cells cs t frozen=>.cells (held g cs) t frozen
 |o=>o
noncomputable def laidWorld(os:Os):World:=
 let w0:=World.holding Tryz.prog os ⟨#[.cells #[.string rangeS] 235,.cells #[.string syntaxS] 235],#[],[]⟩
 {w0 with heap:=(List.range 9).foldl laidObj w0.heap}
theorem laidWorld_met(os:Os)(args:Array Value):laidMet Tryz.prog Rows.typingWholeRow.laid ((laidWorld os).forCall (λ_ _=>0) ⟨#[],args,[]⟩).memory:=
 laidMet_of_run' 8 (by kernel_rfl) (by kernel_rfl)
end Go.Proofs.YtjdlbidjlfllcaaGreatDoor.crA
