/- Part 11 of the proof. No condition. -/
import Derived.Test.YtjdlbidjlfllcaaGreatDoorMJ
import Derived.Test.YtjdlbidjlfllcaaGreatDoorRows
import Derived.ChangeSame
import Derived.Lib.LaidTab
open Go.Proofs
set_option linter.unusedVariables false
set_option linter.unusedSimpArgs false
set_option maxRecDepth 20000
set_option maxHeartbeats 4000000
namespace Go.Eng
section
attribute[local simp] jO.cond Nd.d_eq nd_t nd_dr nd_td ndsD aQ bD bL
def Yi:List aM:=[[],[120,48],[116,48],[122,111,111],[105,102]]
def Yj:List aM:=[[108,111,99,107],[102,105,108,101],[114,101,99],[112,114,111,99],[116,101,115,116]]
def Yk:List aM:=[[59],[59],[32,123,32,97,32,61,32,49,59,32,99,32,61,32,50,59,32,125],[32,123,32,125],[32,123,32,125]]
def Yl:List aM:=[[99,97,108,108,32,122,59],[103,111,32,122,59],[99,97,108,108,32,122,122,59]]
def Ym:List aM:=[[97],[98]]
def Yn:List aM:=[[97],[98],[99]]
theorem Ui:∀w∈Yi,w.length<=60:=by decide
theorem Uj:∀w∈Yj,w.length<=60:=by decide
theorem Uk:∀w∈Yk,w.length<=60:=by decide
theorem Ul:∀w∈Yl,w.length<=60:=by decide
theorem Um:∀w∈Ym,w.length<=60:=by decide
theorem Un:∀w∈Yn,w.length<=60:=by decide
def vD(j:Nat):Df:=⟨[118]++itoaS (j:Int),[118,97,114,32,118]++itoaS (j:Int)++[32,61,32,49,59]⟩
def sU(l:List Df)(m:Nat):List Df:=l++(List.range (m-l.length)).map λj=>vD (l.length+j)
def Ht(l:List Df)(how by_ c:Int)(k:Nat)(x:Df):List Df:=
 if c=0 then l.set k ⟨Yi.getD (bE (by_.tdiv 3) 5).toNat [],x.text⟩
 else if c=1\/c=2 then l.set k ⟨x.name,changedS x.text (by_.tdiv 3) (how.tdiv 11) by_⟩
 else if c=3 then l.eraseIdx k
 else if c=4 then l++[x]
 else if c=5 then l.set k ⟨x.name,Yj.getD (bE (by_.tdiv 3) 5).toNat []++[32]++x.name++Yk.getD (bE (by_.tdiv 3) 5).toNat []⟩
 else if c=6 then l++[⟨[122,111,111],[112,114,111,99,32,122,111,111,32,123,32,99,97,108,108,32]++x.name++[59,32,103,111,32,122,111,111,59,32,125]⟩]
 else if c=7 then l++[⟨[122],[112,114,111,99,32,122,32,123,32,99,97,108,108,32,122,122,59,32,125]⟩,⟨[122,122],[112,114,111,99,32,122,122,32,123,32]++Yl.getD (bE by_ 3).toNat []++[32,125]⟩]
 else if c=8 then l++[⟨[103],[114,101,99,32,103,32,123,32,97,32,61,32,49,59,32]++Ym.getD (bE by_ 2).toNat []++[32,61,32,50,59,32,125]⟩,⟨[119],[112,114,111,99,32,119,32,123,32,103,46]++Yn.getD (bE (by_.tdiv 2) 3).toNat []++[32,61,32,49,59,32,125]⟩]
 else if c=9 then sU l (23+(bE by_ 3).toNat)
 else l.set k ⟨x.name,spacedS x.text [by_,by_.tdiv 3,by_.tdiv 7,how,by_.tdiv 2,1,2]⟩
def lG(l:List Df)(how by_:Int):List Df:=
 if l=[]then [Ke [how,by_]]else Ht l how by_ (bE how 11) (bE by_ l.length).toNat (l.getD (bE by_ l.length).toNat default)
structure nG(n m:Nat)(l:List Df):Prop where
 len:l.length<=n
 each:∀d∈l,d.name.length<=m/\d.text.length<=m
theorem nG.set{n m:Nat}{l:List Df}(h:nG n m l){k:Nat}{x:Df}(hx:x.name.length<=m/\x.text.length<=m):nG n m (l.set k x):=
 ⟨by rw[List.length_set];exact h.len,λd hd=>(List.mem_or_eq_of_mem_set hd).elim (h.each d) λe=>e▸hx⟩
theorem nG.app{n n' m:Nat}{l l':List Df}(h:nG n m l)(h':nG n' m l'):nG (n+n') m (l++l'):=
 ⟨by rw[List.length_append];have:=h.len;have:=h'.len;omega,λd hd=>(List.mem_append.1 hd).elim (h.each d) (h'.each d)⟩
theorem nG.mono{n n' m m':Nat}{l:List Df}(h:nG n m l)(hn:n<=n')(hm:m<=m'):nG n' m' l:=
 ⟨Nat.le_trans h.len hn,λd hd=>⟨Nat.le_trans (h.each d hd).1 hm,Nat.le_trans (h.each d hd).2 hm⟩⟩
theorem MO{l m:List Df}(h:Is m (sU l m.length))(hl:l.length<=m.length):Is (m++[vD m.length]) (sU l (m++[vD m.length]).length):=by
 have h:m=sU l m.length:=h;show m++[vD m.length]=_;unfold sU at h|-;rw[List.length_append,List.length_singleton,show m.length+1-l.length=(m.length-l.length)+1 by omega,List.range_succ,List.map_append,<-List.append_assoc,<-h];simp[show l.length+(m.length-l.length)=m.length by omega]
theorem QK{l m:List Df}{n:Nat}(h:Is m (sU l m.length))(hl:l.length<=m.length)(h1:n<=m.length)(h2:l.length<m.length->m.length<=n):Is m (sU l n):=by
 by_cases e:l.length<m.length
 ·rw[show n=m.length by have:=h2 e;omega];exact h
 ·have h:m=sU l m.length:=h;have e2:m.length=l.length:=by omega
  show m=_;rw[h,e2];unfold sU;rw[show n-l.length=0 by omega,Nat.sub_self]
theorem Uo{b:List DV}{n k:Nat}(hn:b.length=n)(hk:k<n):List.take (n-1) (List.take k b++(List.take (n-(k+1)) (List.drop (k+1) b)++List.drop (n-1) b))=b.eraseIdx k:=by
 rw[<-List.append_assoc,List.take_append_of_le_length (by simp;omega),List.take_of_length_le (by simp;omega),List.take_of_length_le (l:=List.drop (k+1) b) (by simp;omega),List.eraseIdx_eq_take_drop_succ]
theorem XD{l:List Df}{k:Nat}:(l.eraseIdx k).map Df.d=(l.map Df.d).eraseIdx k:=by
 rw[List.eraseIdx_eq_take_drop_succ,List.eraseIdx_eq_take_drop_succ,List.map_append,List.map_take,List.map_drop]
theorem wD{L:List aM}{n:Int}{w:aM}(h0:0<=n)(h1:n.toNat<L.length)(hw:L.getD n.toNat []=w):(L.map DV.str)[n.toNat]?.getD default=.str w:=by
 rw[uP h1,hw]
theorem By(l:List Df)(how by_:Int)(hs:nG 100 100000000 l)(hh:zE how)(hb:zE by_):Ok Tryz.prog 26 [eM l,aG how,aG by_] ⟨.own 2 ((lG l how by_).map Df.d),true⟩:=by
 refine aZ Tryz.func26 rfl Tryz.ntmps26 Tryz.results26 λw0 X hp=>?_;have hl:=hs.len;have hb3:zE (by_.tdiv 3):=GZ (m:=2) hb;have hb7:zE (by_.tdiv 7):=GZ (m:=6) hb;have hb2:zE (by_.tdiv 2):=GZ (m:=1) hb;have hh11:zE (how.tdiv 11):=GZ (m:=10) hh;unfold zE at hh hb hb3 hb7 hb2 hh11;refine aA ?_;simp;refine aA ?_;simp;refine⟨by omega,?_⟩;refine aD ?_;refine aA ?_;simp;refine aC ?_;simp;refine⟨λh2=>?_,λh2=>?_⟩
 ·have hnil:l=[]:=by first|exact h2|exact List.eq_nil_of_length_eq_zero (by omega)
  subst hnil;have kd:=Kf [how,by_] (by intro n hn;simp at hn;rcases hn with rfl|rfl<;>assumption);obtain⟨D,hD⟩:∃D,Ke [how,by_]=D:=⟨_,rfl⟩;rw[hD]at kd;have hsp:lG [] how by_=[D]:=by unfold lG;rw[if_pos rfl,hD]
  refine aX hT hW (λ|19=>some<| .plain ⟨.d D.d,true⟩|_=>none) ?_;simp;refine⟨⟨rfl,by simpa using kd⟩,?_⟩;refine aF ?_;simp[hsp]
 ·have hne:l≠[]:=λe=>h2 (by rw[e]);have hpos:0<l.length:=List.length_pos_iff.2 hne;have ak:=dD by_ (l.length:Int) (by omega);have kk:=dV by_ (l.length:Int) hb.1 hb.2 (by omega);obtain⟨k,hk⟩:∃k:Nat,bE by_ (l.length:Int)=(k:Int):=⟨(bE by_ (l.length:Int)).toNat,by omega⟩;rw[hk]at ak kk;have hkl:k<l.length:=by omega
  obtain⟨x,hx⟩:∃x,l[k]=x:=⟨_,rfl⟩;obtain⟨hxn,hxt⟩:=hs.each x (hx▸List.getElem_mem hkl);have hgx:l.getD k default=x:=by rw[List.getD_eq_getElem?_getD,List.getElem?_eq_getElem hkl,hx];rfl
  have ac:=dD how 11 (by decide);have kc:=dV how 11 hh.1 hh.2 (by decide);obtain⟨c,hc⟩:∃c,bE how 11=c:=⟨_,rfl⟩;rw[hc]at ac kc;have hsp:lG l how by_=Ht l how by_ c k x:=by unfold lG;rw[if_neg hne,hk,Int.toNat_natCast,hc,hgx]
  refine aE ?_;simp;refine aX hT hW (λ|24=>some<| .plain ⟨.d (aG (k:Int)),true⟩|_=>none) ?_;simp;refine⟨kk,?_⟩;refine aA ?_;simp[hkl,hx];refine aP (ι:=List Df) (λr=>aO [(7,.ow 7 0 r.length)]) (λr=>aI [(7,.row false 2 (r.map Df.d))]) (λr=>Is r (Ht l how by_ c k x)) ?_ λr hc28=>?_
  ·refine aX hT hW (λ|31=>some<| .plain ⟨.d (aG c),true⟩|_=>none) ?_;simp;refine⟨kc,?_⟩;refine aH ?_;refine aA ?_;simp;refine aC ?_;simp;refine⟨λh8=>?_,λh8=>?_⟩
   ·have aw1:=dD (by_.tdiv 3) 5 (by decide);have kk1:=dV (by_.tdiv 3) 5 hb3.1 hb3.2 (by decide);obtain⟨w1,hw1⟩:∃w,Yi.getD (bE (by_.tdiv 3) 5).toNat []=w:=⟨_,rfl⟩;have lw1:w1.length<=60:=by rw[<-hw1];exact cS Ui
    have cw1:=wD (L:=Yi) aw1.1 (by show _<5;omega) hw1;simp[Yi]at cw1;refine eF.ro hT hW (λ|58=>some<| .plain ⟨.d (aG (bE (by_.tdiv 3) 5)),true⟩|_=>none) ?_;simp[hkl,hx,cw1];refine⟨by(repeat' with_reducible apply And.intro)<;>first|omega|with_reducible assumption|decide|simpa using kk1|simpa using kk2,?_⟩;refine UV.mk (l.set k ⟨w1,x.text⟩) (aB hp [7] [(12,7)] (hH:=by simp[Df.d])) ?_;have e:c=0:=by omega
    subst e;show l.set k ⟨w1,x.text⟩=_;rw[<-hw1];rfl
   ·refine aP (ι:=Unit) (λcc=>aO [(0,.d (eM l)),(1,.d (aG how)),(2,.d (aG by_)),(7,.ow 12 0 l.length),(8,.d (aG (k:Nat))),(9,.d (.str x.name)),(31,.d (aG c)),(63,.d (.bool (decide (c=1\/c=2))))]) (λcc=>aI [(12,.row false 2 (l.map Df.d))]) (λcc=>True) ?_ λcc hc12=>?_
    ·refine aA ?_;simp;refine aC ?_;simp;refine⟨λh10=>?_,λh10=>?_⟩
     ·refine aE ?_;simp;exact(aB hp [0,1,2,7,8,9,31,63] [(12,12)] (by simp[h10]))
     ·refine aJ ?_;simp;exact(aB hp [0,1,2,7,8,9,31,63] [(12,12)] (by simp[h10]))
    ·refine aC ?_;simp;refine⟨λh12=>?_,λh12 h12b=>?_⟩
     ·have kk1:=Kd x.text (by_.tdiv 3) (how.tdiv 11) by_ (by omega) hb3 hh11 hb;refine eF.ro hT hW (λ|78=>some<| .plain ⟨.d (.str (changedS x.text (by_.tdiv 3) (how.tdiv 11) by_)),true⟩|_=>none) ?_;simp[hkl,hx];refine⟨by(repeat' with_reducible apply And.intro)<;>first|omega|with_reducible assumption|decide|simpa using kk1|simpa using kk2,?_⟩;refine UV.mk (l.set k ⟨x.name,changedS x.text (by_.tdiv 3) (how.tdiv 11) by_⟩) (aB hp [7] [(12,7)] (hH:=by simp[Df.d])) ?_;rcases h12 with e|e<;>(subst e;rfl)
     ·refine aA ?_;simp;refine aC ?_;simp;refine⟨λh13=>?_,λh13=>?_⟩
      ·refine aD ?_;refine eF.rd [] [[],[],[],[],[],[],[],[12],[6]] (λ|90=>some .inp|_=>none) ?_;simp[(show((l.length:Int)-((k:Int)+1)).toNat=l.length-(k+1)by omega),(show k+(l.length-(k+1))=l.length-1 by omega)];refine⟨by omega,?_⟩;refine aF ?_;have e:lG l how by_=l.eraseIdx k:=by rw[hsp,h13];rfl
       rw[e];have el:(l.eraseIdx k).length=l.length-1:=by rw[List.length_eraseIdx];simp[hkl]
       have er:=Uo (b:=l.map Df.d) (n:=l.length) (by simp) hkl;simp[el];exact⟨by omega,by rw[XD];exact er⟩
      ·refine aA ?_;simp;refine aC ?_;simp;refine⟨λh15=>?_,λh15=>?_⟩
       ·refine aJ ?_;simp[hkl,hx];refine⟨by omega,?_⟩;refine UV.mk (l++[x]) (aB hp [7] [(99,7)] (hH:=by simp[Df.d])) ?_;have e:c=4:=by omega
        subst e;show l++[x]=_;rfl
       ·refine aA ?_;simp;refine aC ?_;simp;refine⟨λh17=>?_,λh17=>?_⟩
        ·have aw1:=dD (by_.tdiv 3) 5 (by decide);have kk1:=dV (by_.tdiv 3) 5 hb3.1 hb3.2 (by decide);obtain⟨w1,hw1⟩:∃w,Yj.getD (bE (by_.tdiv 3) 5).toNat []=w:=⟨_,rfl⟩;have lw1:w1.length<=60:=by rw[<-hw1];exact cS Uj
         have cw1:=wD (L:=Yj) aw1.1 (by show _<5;omega) hw1;simp[Yj]at cw1;have aw2:=dD (by_.tdiv 3) 5 (by decide);have kk2:=dV (by_.tdiv 3) 5 hb3.1 hb3.2 (by decide);obtain⟨w2,hw2⟩:∃w,Yk.getD (bE (by_.tdiv 3) 5).toNat []=w:=⟨_,rfl⟩;have lw2:w2.length<=60:=by rw[<-hw2];exact cS Uk
         have cw2:=wD (L:=Yk) aw2.1 (by show _<5;omega) hw2;simp[Yk]at cw2;refine eF.rd [[104,107,113,116],[104,107,113,116],[107,113,116],[104,113],[104,113],[104,113],[113,116],[113,116],[113,116],[104,107,113,116],[113,116],[104,107,116],[104,107,113],[104,107,113],[104,113],[104],[104]] [[],[],[104],[],[],[107],[],[],[],[],[],[113],[],[],[116],[],[],[],[],[],[12]] (λ|107=>some<| .plain ⟨.d (aG (bE (by_.tdiv 3) 5)),true⟩|116=>some<| .plain ⟨.d (aG (bE (by_.tdiv 3) 5)),true⟩|_=>none) ?_;simp[hkl,hx,cw1,cw2];refine⟨by(repeat' with_reducible apply And.intro)<;>first|omega|with_reducible assumption|decide|simpa using kk1|simpa using kk2,?_⟩;refine UV.mk (l.set k ⟨x.name,w1++[32]++x.name++w2⟩) (aB hp [7] [(12,7)] (hH:=by simp[Df.d])) ?_;have e:c=5:=by omega
         subst e;show l.set k ⟨x.name,w1++[32]++x.name++w2⟩=_;rw[<-hw1,<-hw2];rfl
        ·refine aA ?_;simp;refine aC ?_;simp;refine⟨λh19=>?_,λh19=>?_⟩
         ·refine aJ ?_;simp;refine⟨by omega,?_⟩;refine UV.mk (l++[⟨[122,111,111],[112,114,111,99,32,122,111,111,32,123,32,99,97,108,108,32]++x.name++[59,32,103,111,32,122,111,111,59,32,125]⟩]) (aB hp [7] [(130,7)] (hH:=by simp[Df.d])) ?_;have e:c=6:=by omega
          subst e;show l++[⟨[122,111,111],[112,114,111,99,32,122,111,111,32,123,32,99,97,108,108,32]++x.name++[59,32,103,111,32,122,111,111,59,32,125]⟩]=_;rfl
         ·refine aA ?_;simp;refine aC ?_;simp;refine⟨λh21=>?_,λh21=>?_⟩
          ·have aw1:=dD by_ 3 (by decide);have kk1:=dV by_ 3 hb.1 hb.2 (by decide);obtain⟨w1,hw1⟩:∃w,Yl.getD (bE by_ 3).toNat []=w:=⟨_,rfl⟩;have lw1:w1.length<=60:=by rw[<-hw1];exact cS Ul
           have cw1:=wD (L:=Yl) aw1.1 (by show _<3;omega) hw1;simp[Yl]at cw1;refine eF.ro hT hW (λ|137=>some<| .plain ⟨.d (aG (bE by_ 3)),true⟩|_=>none) ?_;simp[cw1];refine⟨by(repeat' with_reducible apply And.intro)<;>first|omega|with_reducible assumption|decide|simpa using kk1|simpa using kk2,?_⟩;refine UV.mk (l++[⟨[122],[112,114,111,99,32,122,32,123,32,99,97,108,108,32,122,122,59,32,125]⟩,⟨[122,122],[112,114,111,99,32,122,122,32,123,32]++w1++[32,125]⟩]) (aB hp [7] [(144,7)] (hH:=by simp[Df.d])) ?_;have e:c=7:=by omega
           subst e;show l++[⟨[122],[112,114,111,99,32,122,32,123,32,99,97,108,108,32,122,122,59,32,125]⟩,⟨[122,122],[112,114,111,99,32,122,122,32,123,32]++w1++[32,125]⟩]=_;rw[<-hw1];rfl
          ·refine aA ?_;simp;refine aC ?_;simp;refine⟨λh23=>?_,λh23=>?_⟩
           ·have aw1:=dD by_ 2 (by decide);have kk1:=dV by_ 2 hb.1 hb.2 (by decide);obtain⟨w1,hw1⟩:∃w,Ym.getD (bE by_ 2).toNat []=w:=⟨_,rfl⟩;have lw1:w1.length<=60:=by rw[<-hw1];exact cS Um
            have cw1:=wD (L:=Ym) aw1.1 (by show _<2;omega) hw1;simp[Ym]at cw1;have aw2:=dD (by_.tdiv 2) 3 (by decide);have kk2:=dV (by_.tdiv 2) 3 hb2.1 hb2.2 (by decide);obtain⟨w2,hw2⟩:∃w,Yn.getD (bE (by_.tdiv 2) 3).toNat []=w:=⟨_,rfl⟩;have lw2:w2.length<=60:=by rw[<-hw2];exact cS Un
            have cw2:=wD (L:=Yn) aw2.1 (by show _<3;omega) hw2;simp[Yn]at cw2;refine eF.rd [[148,150,156,159,165],[150,156,159],[148,156],[148,156],[156,159],[156,159],[156,159],[156,159],[156,159],[148,150,159],[148,150,156],[148,150,156],[148,156],[148],[148],[148],[148],[148]] [[],[148],[],[150],[],[],[],[],[],[156],[],[],[159],[],[],[],[],[],[165],[12,166]] (λ|150=>some<| .plain ⟨.d (aG (bE by_ 2)),true⟩|159=>some<| .plain ⟨.d (aG (bE (by_.tdiv 2) 3)),true⟩|_=>none) ?_;simp[cw1,cw2];refine⟨by(repeat' with_reducible apply And.intro)<;>first|omega|with_reducible assumption|decide|simpa using kk1|simpa using kk2,?_⟩;refine UV.mk (l++[⟨[103],[114,101,99,32,103,32,123,32,97,32,61,32,49,59,32]++w1++[32,61,32,50,59,32,125]⟩,⟨[119],[112,114,111,99,32,119,32,123,32,103,46]++w2++[32,61,32,49,59,32,125]⟩]) (aB hp [7] [(166,7)] (hH:=by simp[Df.d])) ?_;have e:c=8:=by omega
            subst e;show l++[⟨[103],[114,101,99,32,103,32,123,32,97,32,61,32,49,59,32]++w1++[32,61,32,50,59,32,125]⟩,⟨[119],[112,114,111,99,32,119,32,123,32,103,46]++w2++[32,61,32,49,59,32,125]⟩]=_;rw[<-hw1,<-hw2];rfl
           ·refine aA ?_;simp;refine aC ?_;simp;refine⟨λh25=>?_,λh25=>?_⟩
            ·refine aH ?_;refine aR (ι:=List Df) (λm=>aO [(2,.d (aG by_)),(7,.ow 12 0 m.length)]) (λm=>aI [(12,.row false 2 (m.map Df.d))]) (λm=>Is m (sU l m.length)/\l.length<=m.length/\(l.length<m.length->m.length<=23+(bE by_ 3).toNat)/\m.length<=100) (λm=>30-m.length) l (aB hp [2,7] [(12,12)]) (⟨by unfold sU Is;simp,Nat.le_refl _,λh=>absurd h (Nat.lt_irrefl _),hl⟩) λm hi26=>?_;refine aD ?_;refine aD ?_;have aw:=dD by_ 3 (by decide);have kk1:=dV by_ 3 hb.1 hb.2 (by decide);refine eF.ro hT hW (λ|172=>some<| .plain ⟨.d (aG (bE by_ 3)),true⟩|_=>none) ?_;simp;refine⟨⟨kk1,by omega⟩,?_⟩;refine aC ?_;simp;refine⟨λh26=>?_,λh26=>?_⟩
             ·refine aE ?_;simp;refine aH ?_;have kd:=rF (m.length:Int) (by omega) (by omega);have il:=bV (m.length:Int);refine eF.ro hT hW (λ|178=>some<| .plain ⟨.d (.str (itoaS (m.length:Int))),true⟩|182=>some<| .plain ⟨.d (.str (itoaS (m.length:Int))),true⟩|_=>none) ?_;simp;refine⟨by(repeat' with_reducible apply And.intro)<;>first|omega|with_reducible assumption,?_⟩;refine Nf.mk (m++[vD m.length]) (aB hp [2,7] [(187,12)] (hH:=by simp[vD,Df.d])) ?_ ?_
              ·exact⟨MO hi26.1 hi26.2.1,by simp;omega,λ_=>by simp;omega,by simp;omega⟩
              ·simp;omega
             ·refine bA ?_;simp;refine UV.mk (m) (aB hp [7] [(12,7)] (hH:=by simp[Df.d])) ?_;have e:c=9:=by omega
              subst e;exact QK hi26.1 hi26.2.1 (by omega) hi26.2.2.1
            ·have kk1:=MK x.text [by_,by_.tdiv 3,by_.tdiv 7,how,by_.tdiv 2,1,2] (by omega) (by intro n hn;simp at hn;rcases hn with rfl|rfl|rfl|rfl|rfl|rfl|rfl<;>omega);obtain⟨sp,hsp1⟩:∃w,spacedS x.text [by_,by_.tdiv 3,by_.tdiv 7,how,by_.tdiv 2,1,2]=w:=⟨_,rfl⟩;rw[hsp1]at kk1;simp at kk1;refine eF.ro hT hW (λ|48=>some<| .plain ⟨.d (.str sp),true⟩|_=>none) ?_;simp[hkl,hx];refine⟨by(repeat' with_reducible apply And.intro)<;>first|omega|with_reducible assumption|decide|simpa using kk1|simpa using kk2,?_⟩;refine UV.mk (l.set k ⟨x.name,sp⟩) (aB hp [7] [(12,7)] (hH:=by simp[Df.d])) ?_;have e:c=10:=by omega
             subst e;show l.set k ⟨x.name,sp⟩=_;rw[<-hsp1];rfl
  ·refine aA ?_;simp;refine aF ?_;have e:r=lG l how by_:=(show r=_ from hc28).trans hsp.symm;have tk:List.take r.length (List.map Df.d r)=List.map Df.d r:=List.take_of_length_le (by rw[List.length_map];exact Nat.le_refl _);simp[<-e,tk]
end
section
attribute[local simp] jO.cond Nd.d_eq nd_t nd_dr nd_td ndsD aQ bD bL us_t us_m us_d bX.r
def DY(us:List bX):List aM:=us.foldl (λM u=>putS M u.name) []
def Oh(l:List Df):Option Nat->List aM×Int
 |none=>([],6)
 |some i=>if(parseS (l.getD i default).text).2.2≠0 then([],(parseS (l.getD i default).text).2.2)else(DY (bB (parseS (l.getD i default).text).1),0)
def Oi(l:List Df)(name:aM):List aM×Int:=Oh l (l.findIdx? λd=>decide (d.name=name))
end
section
attribute[local simp] jO.cond Nd.d_eq nd_t nd_dr nd_td ndsD aQ bD bL
def MP(l:List Df):List aM:=if(chkR l).2≠0 then []else l.foldl (λM d=>if(parseS d.text).1.kind=6 then putS M d.name else M) []
def Hu(l:List Df):List aM:=l.foldl (λM d=>if(parseS d.text).1.kind=6 then putS M d.name else M) []
end
section
attribute[local simp] jO.cond Nd.d_eq nd_t nd_dr nd_td ndsD aQ bD bL
end
section
attribute[local simp] jO.cond Nd.d_eq nd_t nd_dr nd_td ndsD aQ bD bL
def sZ:List Df:=[⟨[97],[118,97,114,32,97,32,61,32,48,59]⟩,⟨[103],[114,101,99,32,103,32,123,32,110,32,61,32,49,59,32,125]⟩,⟨[112],[112,114,111,99,32,112,32,123,32,97,32,61,32,103,46,110,59,32,125]⟩,
 ⟨[113],[112,114,111,99,32,113,32,123,32,99,97,108,108,32,112,59,32,103,111,32,113,59,32,125]⟩,⟨[116],[116,101,115,116,32,116,32,123,32,99,97,108,108,32,112,59,32,99,104,101,99,107,32,97,32,61,61,32,49,59,32,125]⟩]
def WA(t:aM):List Df:=[sZ[0],sZ[1],⟨[112],t⟩,sZ[3],sZ[4]]
theorem DZ:Ok Tryz.prog 32 [] ⟨.own 2 (sZ.map Df.d),true⟩:=by
 refine aZ Tryz.func32 rfl Tryz.ntmps32 Tryz.results32 λw0 X hp=>?_;refine aA ?_;simp;refine aA ?_;simp;refine⟨by decide,?_⟩;refine aF ?_;simp[sZ,Df.d]
theorem Hv(t:aM):Ok Tryz.prog 33 [.str t] ⟨.own 2 ((WA t).map Df.d),true⟩:=by
 refine aZ Tryz.func33 rfl Tryz.ntmps33 Tryz.results33 λw0 X hp=>?_;refine aA ?_;simp;refine aX hT hW (λ|4=>some<| .plain ⟨.own 2 (sZ.map Df.d),true⟩|_=>none) ?_;simp;refine⟨DZ,?_⟩;refine aA ?_;simp;refine⟨⟨by decide,by decide⟩,?_⟩;refine aA ?_;simp;refine aF ?_;simp[WA,sZ,Df.d]
end
section
attribute[local simp] jO.cond Nd.d_eq nd_t nd_dr nd_td ndsD aQ bD bL
def YP(l:List Df)(nm:aM):Df:=l.getD (fX l nm).toNat default
def MQ(l:List Df)(name:aM):List Df×Int:=
 if(chkR l).2≠0 then([],(chkR l).2)else if fX l name<0 then([],6)else((putS (reachR l name false) name).map (YP l),0)
end
set_option maxRecDepth 100000
theorem XE:chkR sZ=(5,0):=by decide
theorem Up:Oi sZ [112]=([[97],[103]],0):=by decide
theorem Uq:Oi sZ [116]=([[97],[112]],0):=by decide
theorem Ur:MP sZ=[[116]]:=by decide
theorem Us:MQ sZ [116]=([sZ[0],sZ[1],sZ[2],sZ[4]],0):=by decide
theorem Wk:chkR (WA [112,114,111,99,32,112,32,123,32,97,32,61,32,103,46,109,59,32,125])=(2,6):=by decide
theorem Wl:chkR (WA [112,114,111,99,32,112,32,123,32,97,32,61,32,116,59,32,125])=(2,12):=by decide
theorem Wm:chkR (WA [112,114,111,99,32,112,32,123,32,99,97,108,108,32,113,59,32,125])=(2,13):=by decide
theorem Wn:chkR [sZ[0],sZ[2],sZ[3],sZ[4]]=(1,6):=by decide
theorem Wo:DI (cY [⟨[97],[118,97,114,32,97,61,48,32,59]⟩]) (cY [sZ[0]])=true:=by decide
abbrev Ec(a b:aM):Bool:=Op.bytesLess a b
theorem pY{out:List aM}{s:aM}(h:eW Ec out):eW Ec (putS out s):=by
 unfold putS;split
 ·exact h
 ·rename_i hn;obtain⟨s1,s2⟩:=Ak (p:=λy:aM=>Op.bytesLess s y) (out:=out) out.length (Nat.le_refl _);have hle:=Gx (p:=λy:aM=>Op.bytesLess s y) (out:=out) out.length;unfold lI;generalize mY (λy:aM=>Op.bytesLess s y) out out.length=k at*;have hb:∀a∈out.take k,Ec a s=true:=λa ha=>by
   obtain⟨i,hi,rfl⟩:=List.getElem_of_mem ha;rw[List.getElem_take];rw[List.length_take]at hi;obtain⟨k',rfl⟩:∃k',k=k'+1:=⟨k-1,by omega⟩;have hlt:k'<out.length:=by omega
   have h0:=s2 k' hlt rfl;have h1:Ec out[k'] s=true:=by
    cases q:Ec out[k'] s with
    |true=>rfl
    |false=>exact absurd (mH.total _ _ h0 q) (λe=>hn (by rw[e];exact List.getElem_mem hlt))
   by_cases e:i=k'
   ·subst e;exact h1
   ·exact mH.trans _ _ _ (List.pairwise_iff_getElem.1 h i k' (by omega) hlt (by omega)) h1
  have ha:∀b∈out.drop k,Ec s b=true:=λb hb=>by
   obtain⟨i,hi,rfl⟩:=List.getElem_of_mem hb;rw[List.getElem_drop];rw[List.length_drop]at hi;exact s1 (k+i) (by omega) (by omega) (by omega)
  refine List.pairwise_append.2 ⟨h.sublist (List.take_sublist _ _),List.pairwise_cons.2 ⟨ha,h.sublist (List.drop_sublist _ _)⟩,λa ha' b hb'=>?_⟩;rcases List.mem_cons.1 hb' with rfl|hb'
  ·exact hb a ha'
  ·exact mH.trans _ _ _ (hb a ha') (ha b hb')
theorem zM{l:List aM}(h:l.Nodup):eW Ec (dJ l):=by
 have hp:(dJ l).Perm l:=List.mergeSort_perm l _;have hs:(dJ l).Nodup:=hp.nodup_iff.2 h;have e:=pW hs;rw[<-e];exact nO mH ((nN l).imp λ{a b} h=>by
  rw[bytesLess_eq,decide_eq_false_iff_not,List.not_lt];exact h)
theorem FU{l:List aM}{s:aM}:s∈dJ l↔s∈l:=(List.mergeSort_perm l _).mem_iff
theorem Kh(us:List bX):eW Ec (DY us)/\∀s,s∈DY us↔∃u∈us,u.name=s:=by
 have:∀(us:List bX) (M:List aM),eW Ec M->eW Ec (us.foldl (λM u=>putS M u.name) M)/\∀s,s∈us.foldl (λM u=>putS M u.name) M↔s∈M\/∃u∈us,u.name=s:=λus=>by
  induction us with
  |nil=>exact λM h=>⟨h,by simp⟩
  |cons u r ih=>
   intro M h;obtain⟨h1,h2⟩:=ih (putS M u.name) (pY h);rw[List.foldl_cons];refine⟨h1,λs=>?_⟩;rw[h2,mem_putS];simp only[List.mem_cons,exists_eq_or_imp];constructor
   ·rintro((e|h)|h)
    ·exact .inr (.inl e.symm)
    ·exact .inl h
    ·exact .inr (.inr h)
   ·rintro(h|(e|h))
    ·exact .inl (.inr h)
    ·exact .inl (.inl e.symm)
    ·exact .inr h
 have h:=this us [] List.Pairwise.nil;exact⟨h.1,λs=>by simpa [DY]using h.2 s⟩
theorem Ki(us:List bX):(dZ us).Nodup/\∀s,s∈dZ us↔∃u∈us,u.name=s:=by
 have:∀(us:List bX) (M:List aM),M.Nodup->(us.foldl (λM u=>Au M u.name) M).Nodup/\∀s,s∈us.foldl (λM u=>Au M u.name) M↔s∈M\/∃u∈us,u.name=s:=λus=>by
  induction us with
  |nil=>exact λM h=>⟨h,by simp⟩
  |cons u r ih=>
   intro M h;have ha:(Au M u.name).Nodup/\∀s,s∈Au M u.name↔s∈M\/u.name=s:=by
    unfold Au;split
    ·rename_i hm;exact⟨h,λs=>⟨.inl,λq=>q.elim id λe=>e▸hm⟩⟩
    ·rename_i hm;refine⟨List.nodup_append.2 ⟨h,by simp,λa ha b hb e=>?_⟩,λs=>by simp[eq_comm]⟩;simp at hb;subst hb;subst e;exact hm ha
   obtain⟨h1,h2⟩:=ih (Au M u.name) ha.1;rw[List.foldl_cons];refine⟨h1,λs=>?_⟩;rw[h2,ha.2];simp only[List.mem_cons,exists_eq_or_imp];rw[or_assoc]
 have h:=this us [] List.nodup_nil;exact⟨h.1,λs=>by simpa [dZ]using h.2 s⟩
theorem Ut(us:List bX):dJ (dZ us)=DY us:=by
 obtain⟨h1,h2⟩:=Ki us;obtain⟨h3,h4⟩:=Kh us;exact vY mH (zM h1) h3 λs=>by rw[FU,h2,h4]
theorem Oj(l:List Df)(name:aM):FH l name=Oi l name:=by
 unfold FH Oi;cases l.findIdx? (λd=>decide (d.name=name))with
 |none=>rfl
 |some i=>
  simp only[DH,Oh];rw[Ut]
theorem pZ{l:List Df}(h:(dB l).2.2=0):(dB l).1=l.map bI:=by
 have h24:=((sL l).2.2 h).1;have hf:=Bq (l:=l) h24;cases q:dA (q1 l) l.length with
 |some k=>rw[q]at hf;exact absurd h hf.2
 |none=>rw[q]at hf;rw[hf]
theorem Uu{l:List Df}(h:(l.map bI).map Nd.text=l.map Df.name):∀d∈l,(bI d).text=d.name:=by
 rw[List.map_map]at h;exact List.map_inj_left.1 h
theorem MR{l:List Df}(h:∀d∈l,(bI d).text=d.name):gM (l.map bI)=(l.filter λd=>decide ((bI d).kind=6)).map Df.name:=by
 induction l with
 |nil=>rfl
 |cons d r ih=>
  have ih:=ih λx hx=>h x (List.mem_cons_of_mem _ hx);have hd:=h d (List.mem_cons_self ..);unfold gM at*;rw[List.map_cons];by_cases hk:(bI d).kind=6
  ·rw[List.filter_cons_of_pos (by simpa using hk),List.filter_cons_of_pos (by simpa using hk),List.map_cons,List.map_cons,ih,hd]
  ·rw[List.filter_cons_of_neg (by simpa using hk),List.filter_cons_of_neg (by simpa using hk),ih]
theorem Hw(l:List Df):eW Ec (Hu l)/\∀s,s∈Hu l↔∃d∈l,(bI d).kind=6/\d.name=s:=by
 have:∀(l:List Df) (M:List aM),eW Ec M->eW Ec (l.foldl (λM d=>if(parseS d.text).1.kind=6 then putS M d.name else M) M)/\∀s,s∈l.foldl (λM d=>if(parseS d.text).1.kind=6 then putS M d.name else M) M↔s∈M\/∃d∈l,(bI d).kind=6/\d.name=s:=λl=>by
  induction l with
  |nil=>exact λM h=>⟨h,by simp⟩
  |cons d r ih=>
   intro M h;rw[List.foldl_cons];by_cases hk:(parseS d.text).1.kind=6
   ·rw[if_pos hk];obtain⟨h1,h2⟩:=ih (putS M d.name) (pY h);refine⟨h1,λs=>?_⟩;rw[h2,mem_putS];simp only[List.mem_cons,exists_eq_or_imp];have hk':(bI d).kind=6:=hk;constructor
    ·rintro((e|h)|h)
     ·exact .inr (.inl ⟨hk',e.symm⟩)
     ·exact .inl h
     ·exact .inr (.inr h)
    ·rintro(h|(⟨_,e⟩|h))
     ·exact .inl (.inr h)
     ·exact .inl (.inl e.symm)
     ·exact .inr h
   ·rw[if_neg hk];obtain⟨h1,h2⟩:=ih M h;refine⟨h1,λs=>?_⟩;rw[h2];simp only[List.mem_cons,exists_eq_or_imp];have hk':¬(bI d).kind=6:=hk;constructor
    ·rintro(h|h)
     ·exact .inl h
     ·exact .inr (.inr h)
    ·rintro(h|(⟨e,_⟩|h))
     ·exact .inl h
     ·exact absurd e hk'
     ·exact .inr h
 have h:=this l [] List.Pairwise.nil;exact⟨h.1,λs=>by simpa [Hu]using h.2 s⟩
theorem Uv(l:List Df):Hg l=MP l:=by
 unfold Hg MP;have hc:=Hq l;by_cases h:(lE l).2.2=0
 ·have h':(chkR l).2=0:=by rw[<-hc];exact h
  rw[if_neg (by simpa using h),if_neg (by simpa using h')];have hr:=Hl h;obtain⟨hn,hd⟩:=pV hr;rw[Hh,pZ hr];rw[pZ hr]at hn;rw[MR (Uu hn)];obtain⟨h3,h4⟩:=Hw l;have hnd:((l.filter λd=>decide ((bI d).kind=6)).map Df.name).Nodup:=hd.sublist (List.Sublist.map _ List.filter_sublist);refine vY mH (zM hnd) h3 λs=>?_;rw[FU];refine Iff.trans ?_ (h4 s).symm;simp only[List.mem_map,List.mem_filter,decide_eq_true_eq];constructor
  ·rintro⟨d,⟨h1,h2⟩,e⟩;exact⟨d,h1,h2,e⟩
  ·rintro⟨d,h1,h2,e⟩;exact⟨d,⟨h1,h2⟩,e⟩
 ·have h':(chkR l).2≠0:=by rw[<-hc];exact h
  rw[if_pos h,if_pos h']
theorem FV{p:Nat->Bool}{n i:Nat}(h:dA p n=some i):i<n/\p i=true:=by
 unfold dA at h;exact⟨List.mem_range.1 (List.mem_of_find?_eq_some h),List.find?_some h⟩
theorem MS{p:Nat->Bool}{n:Nat}(h:dA p n=none):∀i<n,p i=false:=λi hi=>by
 unfold dA at h;rw[List.find?_eq_none]at h;simpa using h i (List.mem_range.2 hi)
theorem Wp{l:List Df}(h:(chkR l).2=0):∀i<l.length,q2 l i=false:=by
 unfold chkR at h;split at h
 ·cases h
 ·unfold chkR1 at h;cases a:dA (q1 l) l.length with
  |some i=>
   rw[a]at h;have:=(FV a).2;unfold q1 at this;exact absurd h (of_decide_eq_true this)
  |none=>
   rw[a]at h;simp only at h;unfold chkR2 at h;cases b:dA (q2 l) l.length with
   |some i=>
    rw[b]at h;have:=(FV b).2;unfold q2 at this;exact absurd h (of_decide_eq_true this)
   |none=>exact MS b
theorem Kj{c:Bool}{st:List aM×List aM}{u:bX}(h:eW Ec st.1):eW Ec (bfsS c st u).1:=by
 unfold bfsS;split
 ·exact pY h
 ·exact h
theorem Bz{l:List Df}{c:Bool}:∀(f n:Nat) (st:List aM×List aM),eW Ec st.1->eW Ec (bfsF l c f n st)
 |0,_,_,h=>h
 |f+1,n,st,h=>by
  rw[bfsF];cases st.2[n]? with
  |none=>exact h
  |some nm=>
   refine Bz f (n+1) _ ?_;unfold bfsN;split
   ·exact h
   ·have:∀(us:List bX) (st:List aM×List aM),eW Ec st.1->eW Ec (us.foldl (bfsS c) st).1:=λus=>by
     induction us with
     |nil=>exact λst h=>h
     |cons u r ih=>exact λst h=>ih _ (Kj h)
    exact this _ st h
theorem Ep{L:List aM}(h:L.Pairwise λa b=>a<=b)(hn:L.Nodup):eW Ec L:=by
 rw[<-pW hn];exact nO mH (h.imp λ{a b} h=>by rw[bytesLess_eq,decide_eq_false_iff_not,List.not_lt];exact h)
theorem Wq{l:List Df}(h:(l.map bI).map Nd.text=l.map Df.name)(hn:(l.map Df.name).Nodup){i:Nat}(hi:i<l.length):YP l l[i].name=l[i]:=by
 unfold YP;rw[pX h,Hp h hn hi];simp only[pG,Int.toNat_natCast];rw[List.getD_eq_getElem?_getD,List.getElem?_eq_getElem hi];rfl
theorem Ol(k:Int):cbR false k=BH k:=by simp[cbR,BH]
theorem Uw(l:List Df)(name:aM):DL l name=MQ l name:=by
 unfold DL MQ;have hc:=Hq l;by_cases hz:(lE l).2.2=0
 ·have hz':(chkR l).2=0:=by rw[<-hc];exact hz
  rw[if_neg (by simpa using hz),if_neg (by simpa using hz')];have hr:=Hl hz;obtain⟨hn,hd⟩:=pV hr;rw[Hh,pZ hr];rw[pZ hr]at hn;have hq:=Wp hz';rw[pX hn];cases ha:mX (l.map bI) name with
  |none=>simp[pG]
  |some i=>
   obtain⟨hi,rfl⟩:=zI hn ha;rw[if_neg (show¬(pG (some i)<0)by show¬((i:Int)<0);omega)];have hts:(l.map bI).length=l.length:=by simp
   have hsn:=wN (ts:=l.map bI) (i:=i) hd hts (by rw[hts];exact hi);have hin:=Aw (l.map bI) BH i;have hperm:=oZ (sliceAt l (l.map bI) i);have hR1:eW Ec ((cY (sliceAt l (l.map bI) i)).map Df.name):=by
    refine Ep ?_ ((hperm.map Df.name).nodup_iff.2 hsn);rw[List.pairwise_map];exact sN _
   have hR2:eW Ec (putS (reachR l l[i].name false) l[i].name):=pY (Bz _ _ _ List.Pairwise.nil);have hmem:∀d∈sliceAt l (l.map bI) i,∃k,∃hk:k<l.length,d=l[k]/\(k=i\/k∈iK (l.map bI) BH i):=λd hdm=>by
    rw[pA]at hdm;obtain⟨k,hk,rfl⟩:=List.mem_map.1 hdm;rcases List.mem_cons.1 hk with rfl|hk
    ·exact⟨k,hi,by rw[List.getD_eq_getElem?_getD,List.getElem?_eq_getElem hi];rfl,.inl rfl⟩
    ·have hk':=(List.mem_filter.1 hk).1;have hkl:k<l.length:=by have:=hin.2 k hk';rwa[hts]at this
     exact⟨k,hkl,by rw[List.getD_eq_getElem?_getD,List.getElem?_eq_getElem hkl];rfl,.inr hk'⟩
   have hnames:(cY (sliceAt l (l.map bI) i)).map Df.name=putS (reachR l l[i].name false) l[i].name:=by
    refine vY mH hR1 hR2 λs=>?_;rw[mem_putS,xN];constructor
    ·intro hs;obtain⟨d,hdm,rfl⟩:=List.mem_map.1 hs;obtain⟨k,hk,rfl,hor⟩:=hmem d (hperm.mem_iff.1 hdm);rcases hor with rfl|hor
     ·exact .inl rfl
     ·obtain⟨_,hr'⟩:=JP hn hd Ol hi ((xM _ _ _ _).1 hor);exact .inr hr'
    ·intro hs;refine List.mem_map.2 ?_;rcases hs with rfl|hs
     ·exact⟨l[i],hperm.mem_iff.2 (by rw[pA];exact List.mem_map.2 ⟨i,List.mem_cons_self ..,by rw[List.getD_eq_getElem?_getD,List.getElem?_eq_getElem hi];rfl⟩),rfl⟩
     ·obtain⟨k,hk,rfl,hr'⟩:=DR hn hd hq Ol hi hs;refine⟨l[k],hperm.mem_iff.2 ?_,rfl⟩;rw[pA];refine List.mem_map.2 ⟨k,?_,by rw[List.getD_eq_getElem?_getD,List.getElem?_eq_getElem hk];rfl⟩;by_cases e:k=i
      ·subst e;exact List.mem_cons_self ..
      ·exact List.mem_cons_of_mem _ (List.mem_filter.2 ⟨(xM _ _ _ _).2 hr',by simpa using e⟩)
   rw[<-hnames,List.map_map];refine Prod.ext ?_ rfl;show cY (sliceAt l (l.map bI) i)=_
   conv=>lhs;rw[<-List.map_id (cY (sliceAt l (l.map bI) i))]
   refine List.map_congr_left λd hdm=>?_;obtain⟨k,hk,rfl,_⟩:=hmem d (hperm.mem_iff.1 hdm);exact(Wq hn hd hk).symm
 ·have hz':(chkR l).2≠0:=by rw[<-hc];exact hz
  rw[if_pos hz,if_pos hz',<-hc]
section
attribute[local simp] jO.cond Nd.d_eq nd_t nd_dr nd_td ndsD aQ iB
theorem sP(a b:List aM):Ok Tryz.prog 11 [jD a,jD b] ⟨.d (.bool (decide (a=b))),true⟩:=by
 refine aZ Tryz.func11 rfl Tryz.ntmps11 Tryz.results11 λw0 X hp=>?_;refine eF.len (t:=0) rfl λhlen=>?_;simp at hlen;refine aA ?_;simp;refine aD ?_;refine aA ?_;simp;refine aC ?_;simp;refine⟨λh1=>?_,λh1=>?_⟩
 ·refine aA ?_;simp;refine aF ?_;simp;exact λe=>h1 (by rw[e])
 ·refine aE ?_;simp;refine aD ?_;refine aA ?_;simp;refine aH ?_;refine aR (ι:=Nat) (λi=>aO [(0,.d (jD a)),(1,.d (jD b)),(5,.d (aG i))]) (λi=>aI []) (λi=>i<=a.length/\a.take i=b.take i) (λi=>a.length-i) 0 (aB hp [0,1,5] []) (by simp) λi hi4=>?_;refine aD ?_;refine aA ?_;simp;refine aC ?_;simp;refine⟨λh4=>?_,λh4=>?_⟩
  ·refine aE ?_;simp;refine aD ?_;refine aH ?_;refine aD ?_;refine eF.rd [] [] (λ_=>none) ?_;simp[h4,show i<b.length by omega];refine aC ?_;simp;refine⟨λh6=>?_,λh6=>?_⟩
   ·refine aA ?_;simp;refine aF ?_;simp;intro e;subst e;simp at h6
   ·refine aE ?_;simp;refine aJ ?_;simp;refine⟨by omega,?_⟩;refine Nf.mk (i+1) (aB hp [0,1,5] []) ?_ ?_
    ·exact⟨h4,Gv hi4.2 h4 (by omega) (by simpa using h6)⟩
    ·omega
  ·refine bA ?_;simp;refine aA ?_;simp;refine aF ?_;simp;have e:i=a.length:=by omega
   have:=hi4.2;rw[e,List.take_length]at this;have h1':a.length=b.length:=by omega
   rw[this,h1',List.take_length]
end
section
attribute[local simp] jO.cond Nd.d_eq nd_t nd_dr nd_td ndsD aQ bD bL
theorem vA{l:List Df}{a b:Int}(h:chkR l=(a,b)):Ok Tryz.prog 8 [eM l] ⟨.tup [.d (aG a),.d (aG b)],true⟩:=by
 have k:=Jx l;rw[show(lE l).2=(a,b) from(Hq l).trans h]at k;exact k
theorem QL:Ok Tryz.prog 10 [] ⟨.d (.bool true),true⟩:=by
 refine aZ Tryz.func10 rfl Tryz.ntmps10 Tryz.results10 λw0 X hp=>?_;refine aA ?_;simp;refine aX hT hW (λ|19=>some<| .plain ⟨.own 2 (sZ.map Df.d),true⟩|_=>none) ?_;simp;refine⟨DZ,?_⟩;refine aX hT hW (λ|22=>some<| .plain ⟨.tup [.d (aG 5),.d (aG 0)],true⟩|_=>none) ?_;simp[aW];refine⟨by simpa using vA XE,?_⟩;refine aD ?_;have k:=NX sZ [112];rw[Oj,Up]at k;refine eF.ro hT hW (λ|27=>some<| .plain ⟨.tup [.own 1 ([[97],[103]].map .str),.d (aG 0)],true⟩|_=>none) ?_;simp[aW];refine⟨by simpa using k,?_⟩;refine aD ?_;have k2:=NX sZ [116];rw[Oj,Uq]at k2;refine eF.ro hT hW (λ|32=>some<| .plain ⟨.tup [.own 1 ([[97],[112]].map .str),.d (aG 0)],true⟩|_=>none) ?_;simp[aW];refine⟨by simpa using k2,?_⟩;refine aD ?_;have k3:=TQ sZ [116] (by decide);rw[Uw,Us]at k3;obtain⟨sl,hsl⟩:∃sl,[sZ[0],sZ[1],sZ[2],sZ[4]]=sl:=⟨_,rfl⟩;rw[hsl]at k3;refine eF.ro hT hW (λ|37=>some<| .plain ⟨.tup [.own 2 (sl.map Df.d),.d (aG 0)],true⟩|_=>none) ?_;simp[aW];refine⟨by simpa using k3,?_⟩;refine aX hT hW (λ|41=>some<| .plain ⟨.own 2 ((WA [112,114,111,99,32,112,32,123,32,97,32,61,32,103,46,109,59,32,125]).map Df.d),true⟩|42=>some<| .plain ⟨.tup [.d (aG 2),.d (aG 6)],true⟩|_=>none) ?_;simp[aW];refine⟨⟨Hv _,by simpa using vA Wk⟩,?_⟩;refine aX hT hW (λ|46=>some<| .plain ⟨.own 2 ((WA [112,114,111,99,32,112,32,123,32,97,32,61,32,116,59,32,125]).map Df.d),true⟩|47=>some<| .plain ⟨.tup [.d (aG 2),.d (aG 12)],true⟩|_=>none) ?_;simp[aW];refine⟨⟨Hv _,by simpa using vA Wl⟩,?_⟩;refine aX hT hW (λ|51=>some<| .plain ⟨.own 2 ((WA [112,114,111,99,32,112,32,123,32,99,97,108,108,32,113,59,32,125]).map Df.d),true⟩|52=>some<| .plain ⟨.tup [.d (aG 2),.d (aG 13)],true⟩|_=>none) ?_;simp[aW];refine⟨⟨Hv _,by simpa using vA Wm⟩,?_⟩;refine aD ?_;refine eF.rd [[60],[56],[56],[56],[56],[],[56,60,61],[56,60,61]] [[56],[],[],[],[60],[56,61],[],[],[61,64],[65]] (λ|65=>some<| .plain ⟨.tup [.d (aG 1),.d (aG 6)],true⟩|_=>none) ?_;simp[aW,sZ,Df.d]
 refine⟨by simpa [sZ,Df.d]using vA Wn,?_⟩;refine aD ?_;refine aA ?_;simp;refine aC ?_;simp;refine aE ?_;simp;refine aD ?_;have kt:=TJ sZ;rw[Uv,Ur]at kt;have s1:=sP [[116]] [[116]];have s2:=sP [[97],[103]] [[97],[103]];have s3:=sP [[97],[112]] [[97],[112]];simp[sZ,Df.d]at kt;simp at s1 s2 s3;refine eF.ro hT hW (λ|119=>some<| .plain ⟨.own 1 [.str [116]],true⟩|121=>some<| .plain ⟨.d (.bool true),true⟩|125=>some<| .plain ⟨.d (.bool true),true⟩|130=>some<| .plain ⟨.d (.bool true),true⟩|_=>none) ?_;simp;refine⟨by(repeat' with_reducible apply And.intro)<;>first|with_reducible assumption|decide,?_⟩;refine aD ?_;have sd:=Hj sl sl (by rw[<-hsl];decide);have sm:=Qt [⟨[97],[118,97,114,32,97,61,48,32,59]⟩] [sZ[0]] (by decide) (by decide);rw[Wo]at sm;simp[<-hsl,sZ,Df.d]at sd sm;refine eF.rd [[],[],[147],[],[],[],[],[],[],[],[],[],[],[],[],[],[],[],[],[],[],[152],[152]] [[],[],[],[],[],[],[],[],[],[],[],[],[],[],[],[147],[148],[],[],[],[152],[],[],[155]] (λ|148=>some<| .plain ⟨.d (.bool true),true⟩|155=>some<| .plain ⟨.d (.bool true),true⟩|_=>none) ?_;simp[<-hsl,sZ,Df.d];refine⟨by(repeat' with_reducible apply And.intro)<;>first|with_reducible assumption|decide,?_⟩;refine aF ?_;simp
end
section
attribute[local simp] jO.cond Nd.d_eq nd_t nd_dr nd_td ndsD aQ bD bL
theorem QM{x:Nd}(h:Ls x):x.text.length<=(textT x).length:=by
 obtain⟨_,h⟩:=h;unfold textT;simp only[];split
 ·rename_i q;split
  ·simp only[List.length_append,List.length_cons];omega
  ·rename_i hb;rcases h with⟨_,c,hx,hc⟩|⟨z,_⟩|⟨z,_⟩|⟨z,_⟩|⟨z,_⟩
   ·exact absurd (by rw[hx];rfl) (hb c)
   all_goals omega
 ·split
  ·simp only[List.length_append,List.length_cons];omega
  ·split
   ·simp only[List.length_append,List.length_cons];omega
   ·split<;>(simp only[List.length_append,List.length_cons];omega)
theorem MT(l:List Int):(Ke l).name.length<=40000040/\(Ke l).text.length<=40000040:=by
 have h1:=QJ l;have h2:=QM (DX l);exact⟨by show(treeS l).text.length<=40000040;omega,h1⟩
theorem MU(k i v:Nat):∀d∈fI k i v,d.name.length<=2000/\d.text.length<=4000:=by
 intro d hd;unfold fI Qv at hd;obtain⟨r,hr,rfl⟩:=List.mem_map.1 hd;obtain⟨h1,h2,h3⟩:=(uQ v k).2 r hr;have il:=bV (i:Int);refine⟨?_,?_⟩
 ·show(r.l++itoaS (i:Int)).length<=2000;rw[List.length_append];omega
 ·show(r.w++[32]++(r.l++itoaS (i:Int))++kP r.t i).length<=4000;simp only[List.length_append,FI,List.length_cons,List.length_nil];omega
theorem Ea(l:List Int):∀k,∀d∈(kD l k).1,d.name.length<=2000/\d.text.length<=4000
 |0=>by simp[kD]
 |k+1=>by
  intro d hd;have ih:=Ea l k;rw[Ay]at hd;unfold Qw at hd;simp only at hd;have hap:∀d∈(kD l k).1++fI ((dH l (1+k) 4096).toNat%14) k ((dH l (1+k) 4096).toNat / 14),d.name.length<=2000/\d.text.length<=4000:=λd hd=>(List.mem_append.1 hd).elim (ih d) (MU _ _ _ d);split at hd
  ·rcases List.mem_append.1 hd with hd|hd
   ·exact hap d hd
   ·simp at hd;subst hd;decide
  ·exact hap d hd
theorem QN(l:List Int):nG 19 4000 (zG l):=by
 refine⟨VZ l,λd hd=>?_⟩;have:=Ea l (sY l) d ((Az _ _).mem_iff.1 hd);omega
theorem BA{l:List Df}{n m:Nat}(h:nG n m l)(hm:1000<=m)(hn:1<=n)(how by_:Int):nG (n+26) (21*m+40000040) (lG l how by_):=by
 unfold lG;split
 ·exact⟨by show 1<=_;omega,λd hd=>by simp at hd;subst hd;have:=MT [how,by_];omega⟩
 ·rename_i hne;have hpos:0<l.length:=List.length_pos_iff.2 hne;have ak:=dD by_ (l.length:Int) (by omega);obtain⟨k,hk⟩:∃k:Nat,bE by_ (l.length:Int)=(k:Int):=⟨(bE by_ (l.length:Int)).toNat,by omega⟩;rw[hk,Int.toNat_natCast];have hkl:k<l.length:=by omega
  obtain⟨x,hx⟩:∃x,l.getD k default=x:=⟨_,rfl⟩;have hx2:x∈l:=by rw[<-hx,List.getD_eq_getElem?_getD,List.getElem?_eq_getElem hkl];exact List.getElem_mem hkl
  obtain⟨q1,q2⟩:=h.each x hx2;rw[hx];have h1:nG (n+26) (21*m+40000040) l:=h.mono (by omega) (by omega);have g1:=cS (k:=(bE (by_.tdiv 3) 5).toNat) Ui;have g2:=cS (k:=(bE (by_.tdiv 3) 5).toNat) Uj;have g3:=cS (k:=(bE (by_.tdiv 3) 5).toNat) Uk;have g4:=cS (k:=(bE by_ 3).toNat) Ul;have g5:=cS (k:=(bE by_ 2).toNat) Um;have g6:=cS (k:=(bE (by_.tdiv 2) 3).toNat) Un;have ap:∀l':List Df,l'.length<=26->(∀d∈l',d.name.length<=21*m+40000040/\d.text.length<=21*m+40000040)->nG (n+26) (21*m+40000040) (l++l'):=λl' h1 h2=>(h.mono (Nat.le_refl _) (by omega)).app ⟨h1,h2⟩;unfold Ht;split
  ·exact h1.set ⟨by dsimp only;omega,by dsimp only;omega⟩
  ·split
   ·have:=Wj x.text (by_.tdiv 3) (how.tdiv 11) by_;exact h1.set ⟨by dsimp only;omega,by dsimp only;omega⟩
   ·split
    ·exact⟨by have:=List.length_eraseIdx_le l k;have:=h.len;omega,λd hd=>h1.each d (List.mem_of_mem_eraseIdx hd)⟩
    ·split
     ·exact ap _ (by simp) (λd hd=>by simp at hd;subst hd;omega)
     ·split
      ·exact h1.set ⟨by dsimp only;omega,by dsimp only;simp only[List.length_append,List.length_cons,List.length_nil];omega⟩
      ·split
       ·exact ap _ (by simp) (λd hd=>by simp at hd;subst hd;simp only[List.length_append,List.length_cons,List.length_nil];omega)
       ·split
        ·exact ap _ (by simp) (λd hd=>by simp at hd;rcases hd with rfl|rfl<;>simp only[List.length_append,List.length_cons,List.length_nil]<;>simp at g4|-<;>omega)
        ·split
         ·exact ap _ (by simp) (λd hd=>by simp at hd;rcases hd with rfl|rfl<;>simp only[List.length_append,List.length_cons,List.length_nil]<;>simp at g5 g6|-<;>omega)
         ·split
          ·unfold sU;have a3:=dD by_ 3 (by decide);refine ap _ (by simp;omega) (λd hd=>?_);obtain⟨j,_,rfl⟩:=List.mem_map.1 hd;have:=bV ((l.length+j:Nat):Int);refine⟨by show(_++itoaS ((l.length+j:Nat):Int)).length<=_;simp only[List.length_append,List.length_cons,List.length_nil];omega,by show(_++itoaS ((l.length+j:Nat):Int)++_).length<=_;simp only[List.length_append,List.length_cons,List.length_nil];omega⟩
          ·have:=ML x.text [by_,by_.tdiv 3,by_.tdiv 7,how,by_.tdiv 2,1,2];exact h1.set ⟨by dsimp only;omega,by dsimp only;omega⟩
def cN(m:List Int):Nat:=min 6 ((m.length-1) / 10)
def Zb(m:List Int)(j:Nat):Df:=Ke ((m.take (10*j+10)).drop (10*j))
def cL(m:List Int):List Df:=(List.range (cN m)).map (Zb m)
theorem XF(m:List Int):(cL m).length=cN m:=by simp[cL]
theorem Yo(m:List Int):cN m<=6:=by unfold cN;omega
def Hx(l m:List Int)(how by_:Int)(raw:aM):List (List Df):=
 [zG l,lG (zG l) how by_,lG (lG (zG l) how by_) by_ how,cL m,zG l++cL m,[⟨[112,48],raw.take 60⟩],[⟨[112,48],[112,114,111,99,32,112,48,32,123,32]++raw.take 60++[32,125]⟩],[]]
theorem QO(l m:List Int)(how by_:Int)(raw:aM)(hl:Jr l)(hm:Jr m)(hh:zE how)(hb:zE by_)(hr:raw.length<=9223372036854775807):Ok Tryz.prog 7 [.sl (l.map aG),.sl (m.map aG),aG how,aG by_,.str raw] ⟨.d (.sl ((Hx l m how by_ raw).map eM)),false⟩:=by
 refine aZ Tryz.func7 rfl Tryz.ntmps7 Tryz.results7 λw0 X hp=>?_;obtain⟨a,ha⟩:∃a,zG l=a:=⟨_,rfl⟩;obtain⟨b,hb1⟩:∃b,lG a how by_=b:=⟨_,rfl⟩;obtain⟨b2,hb2⟩:∃b2,lG b by_ how=b2:=⟨_,rfl⟩;obtain⟨c,hc⟩:∃c,cL m=c:=⟨_,rfl⟩;have hres:Hx l m how by_ raw=[a,b,b2,c,a++c,[⟨[112,48],raw.take 60⟩],[⟨[112,48],[112,114,111,99,32,112,48,32,123,32]++raw.take 60++[32,125]⟩],[]]:=by unfold Hx;rw[ha,hb1,hb2,hc]
 have sa:nG 19 4000 a:=by rw[<-ha];exact QN l
 have sb:nG 45 41000000 b:=by rw[<-hb1];exact(BA sa (by decide) (by decide) how by_).mono (by decide) (by decide)
 have sb2:nG 71 1000000000 b2:=by rw[<-hb2];exact(BA sb (by decide) (by decide) by_ how).mono (by decide) (by decide)
 have la:=sa.len;have lb:=sb.len;have lb2:=sb2.len;have ka:=Kg l hl;have kb:=By a how by_ (sa.mono (by decide) (by decide)) hh hb;have kb2:=By b by_ how (sb.mono (by decide) (by decide)) hb hh;rw[ha]at ka;rw[hb1]at kb;rw[hb2]at kb2;have lc:c.length=cN m:=by rw[<-hc,XF]
 have cn:=Yo m;obtain⟨rw_,hrw⟩:∃r,raw.take 60=r:=⟨_,rfl⟩;have krw:=TD raw 60 hr;rw[hrw]at krw hres;have lrw:rw_.length<=60:=by rw[<-hrw,List.length_take];omega
 refine aA ?_;simp;refine aX hT hW (λ|17=>some<| .plain ⟨.own 2 (a.map Df.d),true⟩|_=>none) ?_;simp;refine⟨ka,?_⟩;refine aX hT hW (λ|21=>some<| .plain ⟨.own 2 (b.map Df.d),true⟩|_=>none) ?_;simp[List.take_of_length_le (show(a.map Df.d).length<=a.length by simp)];refine⟨by simpa using kb,?_⟩;refine aA ?_;simp;refine aD ?_;refine aA ?_;simp;refine aH ?_;refine aR (ι:=Nat) (λj=>aO [(1,.d (.sl (m.map aG))),(2,.d (aG how)),(3,.d (aG by_)),(4,.d (.str raw)),(11,.ow 11 0 a.length),(12,.ow 12 0 b.length),(13,.ow 13 0 j),(14,.d (aG (10*j:Nat)))]) (λj=>aI [(11,.row false 2 (a.map Df.d)),(12,.row false 2 (b.map Df.d)),(13,.row false 2 ((c.take j).map Df.d))]) (λj=>j<=cN m) (λj=>cN m-j) 0 (aB hp [1,2,3,4,11,12,13,14] [(17,11),(21,12),(13,13)]) (Nat.zero_le _) λj hi5=>?_;refine aD ?_;refine aA ?_;simp;refine⟨by omega,?_⟩;refine aC ?_;simp;refine⟨λh5 h5b=>?_,λh5=>?_⟩
 ·have hj:j<cN m:=by unfold cN;omega
  have kd:=Kf ((m.take (10*j+10)).drop (10*j)) (λn hn=>hm n (List.mem_of_mem_take (List.mem_of_mem_drop hn)));obtain⟨D,hD⟩:∃D,Ke ((m.take (10*j+10)).drop (10*j))=D:=⟨_,rfl⟩;rw[hD]at kd;have hns:c.take (j+1)=c.take j++[D]:=by
   rw[List.take_succ_eq_append_getElem (by omega)];simp[<-hc,cL,Zb,hD]
  have hnd:List.take (j+1) (List.map Df.d c)=List.take j (List.map Df.d c)++[D.d]:=by rw[<-List.map_take,hns,List.map_append,List.map_take];rfl
  refine aE ?_;simp;refine aD ?_;refine aH ?_;refine eF.ro hT hW (λ|39=>some<| .plain ⟨.d D.d,true⟩|_=>none) ?_;simp[(show(10*(j:Int)).toNat=10*j by omega),(show(10*(j:Int)+10).toNat=10*j+10 by omega)];refine⟨by(repeat' with_reducible apply And.intro)<;>first|omega|rfl|simpa using kd,?_⟩;refine aJ ?_;simp;refine⟨by omega,?_⟩;refine Nf.mk (j+1) (aB hp [1,2,3,4,11,12,13,14] [(11,11),(12,12),(41,13)] (by simp[show(10*(j:Int)+10)=10*((j:Int)+1)by omega]) (by simp[hnd,List.take_take,Df.d])) ?_ ?_
  ·omega
  ·omega
 ·refine bA ?_;simp;refine aD ?_;have hj:j=c.length:=by rw[lc];unfold cN at hi5|-;omega
  subst hj;have tk:List.take c.length (List.map Df.d c)=List.map Df.d c:=List.take_of_length_le (by rw[List.length_map];exact Nat.le_refl _);refine eF.ro hT hW (λ|43=>some<| .plain ⟨.d (.str rw_),true⟩|_=>none) ?_;simp;refine⟨krw,?_⟩;refine aX hT hW (λ|49=>some<| .plain ⟨.own 2 (b2.map Df.d),true⟩|_=>none) ?_;simp[tk,List.take_of_length_le (show(b.map Df.d).length<=b.length by simp),List.take_of_length_le (show(a.map Df.d).length<=a.length by simp)];refine⟨by(repeat' with_reducible apply And.intro)<;>first|omega|rfl|simpa using kb2,?_⟩;refine aF ?_;simp[hres,List.take_of_length_le (show(List.map Df.d a++List.map Df.d c).length<=a.length+c.length by simp)]
end
section
attribute[local simp] jO.cond Nd.d_eq nd_t nd_dr nd_td ndsD aQ bD bL
theorem QT(l m:List Int)(how by_:Int)(raw:aM)(hl:Jr l)(hm:Jr m)(hh:zE how)(hb:zE by_)(hr:raw.length<=9223372036854775807):Ok Tryz.prog 3 [.sl (l.map aG),.sl (m.map aG),aG how,aG by_,.str raw] ⟨.d (.bool true),true⟩:=by
 refine aZ Tryz.func3 rfl Tryz.ntmps3 Tryz.results3 λw0 X hp=>?_;obtain⟨L,hL⟩:∃L,Hx l m how by_ raw=L:=⟨_,rfl⟩;have hLl:L.length=8:=by rw[<-hL];rfl
 have kl:=QO l m how by_ raw hl hm hh hb hr;rw[hL]at kl;have h0:∀h:0<L.length,(chkR L[0]).2=0:=by
  subst hL;intro h;show(chkR (zG l)).2=0;rw[We]
 refine aA ?_;simp;refine aX hT hW (λ|22=>some<| .plain ⟨.d (.sl (L.map eM)),false⟩|_=>none) ?_;simp;refine⟨kl,?_⟩;refine aD ?_;refine aA ?_;simp;refine aH ?_;refine aR (ι:=Nat) (λi=>aO [(11,.d (.sl (L.map eM))),(12,.d (aG (i:Nat)))]) (λi=>aI []) (λi=>i<=8) (λi=>8-i) 0 (aB hp [11,12] []) (Nat.zero_le _) λi hi3=>?_;refine aD ?_;refine aA ?_;simp[hLl];refine aC ?_;simp;refine⟨λh3=>?_,λh3=>?_⟩
 ·refine aE ?_;simp;refine aD ?_;refine aH ?_;refine aD ?_;have hi:i<L.length:=by omega
  obtain⟨d,hd⟩:∃d,L[i]=d:=⟨_,rfl⟩;have e1:=Jx d;have e2:=RCheck_ok d;rw[Hq]at e1;obtain⟨Y,hY⟩:∃Y,chkR d=Y:=⟨_,rfl⟩;rw[hY]at e1 e2;have hz:i=0->Y.2=0:=λe=>by
   subst e;rw[<-hY,<-hd];exact h0 hi
  refine eF.ro hT hW (λ|34=>some<| .plain ⟨.tup [.d (aG Y.1),.d (aG Y.2)],true⟩|_=>none) ?_;simp[aW,hi,hd];refine⟨e1,?_⟩;refine aX hT hW (λ|42=>some<| .plain ⟨.tup [.d (aG Y.1),.d (aG Y.2)],true⟩|_=>none) ?_;simp[aW,hi,hd];refine⟨e2,?_⟩;refine aA ?_;simp;refine aC ?_;simp;refine⟨λh7 h7b=>absurd (hz h7) h7b,λh7=>?_⟩;refine aE ?_;simp;refine aJ ?_;simp;refine⟨by omega,?_⟩;refine Nf.mk (i+1) (aB hp [11,12] []) ?_ ?_
  ·omega
  ·omega
 ·refine bA ?_;simp;refine aD ?_;have hlv:=QL;refine eF.ro hT hW (λ|61=>some<| .plain ⟨.d (.bool true),true⟩|_=>none) ?_;simp;refine⟨hlv,?_⟩;refine aF ?_;simp
end
open Go.RowKit
def Hy(P:Program):List Field->Nat->Bool
 |[],_=>true
 |f::r,o=>f.offset==o&&Hy P r (o+P.cellsOf f.type)
def vB(P:Program):Nat->TypeId->DataW Unit->Option (List Value)
 |0,_,_=>none
 |n+1,t,d=>match P.underlying t,d with
  |some (.int _),.lit (.int k z)=>some [.int k z]
  |some .string,.lit (.string s)=>some [.string ⟨s.toArray⟩]
  |some (.array _ e),.agg ds=>match ds.mapM (vB P n e)with
   |some xs=>if xs.all (λx=>x.length==P.cellsOf e)&&xs.length*P.cellsOf e==P.cellsOf t then some xs.flatten else none
   |none=>none
  |some (.struct fs),.agg ds=>match(fs.toList.zip ds).mapM (λp=>vB P n p.1.type p.2)with
   |some xs=>if Hy P fs.toList 0&&xs.flatten.length==P.cellsOf t&&((fs.toList.zip xs).all λp=>p.2.length==P.cellsOf p.1.type)&&ds.length==fs.size then some xs.flatten else none
   |none=>none
  |_,_=>none
theorem FW{c:Nat}:∀(xs:List (List Value)) (cs:List Value),cs.length=xs.length*c->(∀(i:Nat) (x:List Value),xs[i]? =some x->(cs.drop (i*c)).take c=x)->cs=xs.flatten
 |[],cs,hl,_=>by
  have:cs=[]:=List.eq_nil_of_length_eq_zero (by simpa using hl);simp[this]
 |x::xs,cs,hl,h=>by
  have h0:=h 0 x rfl;simp only[Nat.zero_mul,List.drop_zero]at h0;have hr:=FW (c:=c) xs (cs.drop c) (by rw[List.length_drop,hl,List.length_cons,Nat.succ_mul];omega) λi y hy=>by
   have:=h (i+1) y (by simpa using hy);rw[List.drop_drop,Nat.add_comm c,<-Nat.succ_mul];exact this
  rw[List.flatten_cons,<-hr,<-h0,List.take_append_drop]
theorem BB{P:Program}{cs:List Value}:∀(fs:List Field) (xs:List (List Value)) (o:Nat),Hy P fs o=true->xs.length=fs.length->(∀(i:Nat) (f:Field) (x:List Value),fs[i]? =some f->xs[i]? =some x->(cs.drop f.offset).take (P.cellsOf f.type)=x/\x.length=P.cellsOf f.type)->
 (cs.drop o).take xs.flatten.length=xs.flatten
 |[],[],_,_,_,_=>by simp
 |[],_::_,_,_,h,_=>by simp at h
 |_::_,[],_,_,h,_=>by simp at h
 |f::fs,x::xs,o,ho,hl,h=>by
  simp only[Hy,Bool.and_eq_true,beq_iff_eq]at ho;obtain⟨h1,h2⟩:=h 0 f x rfl rfl;have hr:=BB fs xs (o+P.cellsOf f.type) ho.2 (by simpa using hl) λi g y hg hy=>h (i+1) g y (by simpa using hg) (by simpa using hy);rw[ho.1]at h1;rw[List.flatten_cons,List.length_append,List.take_add,h2,h1,List.drop_drop,hr]
theorem QP{enc:TypeId×Value->Unit}{P:Program}{w:World}{base:Nat}{sp:Nat->Bool}{held:Bool}:∀(n fuel:Nat) (t:TypeId) (cs:List Value) (d:DataW Unit) (p:List MemPlace) (vs:List Value),
 DataW.trod enc P w base sp held fuel t cs=some (d,p)->vB P n t d=some vs->cs=vs:=by
 intro n;induction n with
 |zero=>intro fuel t cs d p vs _ h;cases h
 |succ n ih=>
  intro fuel t cs d p vs ht hv;unfold vB at hv;split at hv
  ·rename_i k' k z hu;obtain⟨m,rfl,hx,_⟩:=DataW.trod_int hu ht;injection hx with e1 e2
   injection e1 with e1
   injection e1 with e3 e4
   subst e3 e4;exact Option.some.inj hv
  ·rename_i s hu;obtain⟨b,rfl,hx,_⟩:=DataW.trod_string hu ht;injection hx with e1 e2
   injection e1 with e1
   injection e1 with e3
   subst e3;exact Option.some.inj hv
  ·rename_i m e ds hu;cases fuel with
   |zero=>simp[DataW.trod]at ht
   |succ fuel=>
    unfold DataW.trod at ht;rw[hu]at ht;simp only at ht;split at ht
    ·rename_i hl;obtain⟨ys,hm,hx⟩:=Option.map_eq_some_iff.1 ht;have hds:ys.map (·.1)=ds:=by
      have:=congrArg Prod.fst hx;simpa using this
     split at hv
     ·rename_i xs hxs;split at hv
      ·rename_i hc;simp only[Bool.and_eq_true,List.all_eq_true,beq_iff_eq]at hc;have hv:=Option.some.inj hv;rw[<-hv];have hyl:ys.length=m:=by simpa using Lib.mapM_length hm
       have hxl:xs.length=ds.length:=Lib.mapM_length hxs;have hdl:ds.length=m:=by rw[<-hds,List.length_map,hyl]
       refine FW (c:=P.cellsOf e) xs cs (by rw[hl,hc.2]) λi x hx'=>?_;have hi:i<m:=by have:=(List.getElem?_eq_some_iff.1 hx').1;omega
       obtain⟨y,hy,hf⟩:=Lib.mapM_at hm i i (by simp[hi]);have hdi:ds[i]? =some y.1:=by rw[<-hds,List.getElem?_map,hy];rfl
       obtain⟨x2,hx2,hlc⟩:=Lib.mapM_at hxs i _ hdi;have:x2=x:=Option.some.inj (hx2.symm.trans hx');subst this;exact ih fuel e _ y.1 y.2 x2 hf hlc
      ·cases hv
     ·cases hv
    ·cases ht
  ·rename_i fs ds hu;obtain⟨ys,m,rfl,hx,hl,hyl,hf⟩:=DataW.trod_struct hu ht;have hds:ys.map (·.1)=ds:=by
    have:=congrArg Prod.fst hx;simpa using this.symm
   split at hv
   ·rename_i xs hxs;split at hv
    ·rename_i hc;simp only[Bool.and_eq_true,List.all_eq_true,beq_iff_eq]at hc;obtain⟨⟨⟨c1,c2⟩,c3⟩,c4⟩:=hc;have hv:=Option.some.inj hv;rw[<-hv];have hxl:xs.length=(fs.toList.zip ds).length:=Lib.mapM_length hxs;have hzl:(fs.toList.zip ds).length=fs.size:=by rw[List.length_zip,c4];simp
     have key:=BB (P:=P) (cs:=cs) fs.toList xs 0 c1 (by rw[hxl,hzl];simp) λi f x hfi hxi=>by
      have hfa:fs[i]? =some f:=by simpa using hfi
      have hyi:=hf i f hfa;have hi:i<fs.size:=(Array.getElem?_eq_some_iff.1 hfa).1;obtain⟨y,hy⟩:∃y,ys[i]? =some y:=⟨_,List.getElem?_eq_getElem (by omega)⟩;rw[hy]at hyi;have hdi:ds[i]? =some y.1:=by rw[<-hds,List.getElem?_map,hy];rfl
      have hz:(fs.toList.zip ds)[i]? =some (f,y.1):=by
       rw[List.getElem?_zip_eq_some];exact⟨hfi,hdi⟩
      obtain⟨x2,hx2,hlc⟩:=Lib.mapM_at hxs i _ hz;have:x2=x:=Option.some.inj (hx2.symm.trans hxi);subst this;refine⟨ih m f.type _ _ _ x2 hyi hlc,?_⟩;have hz2:(fs.toList.zip xs)[i]? =some (f,x2):=by
       rw[List.getElem?_zip_eq_some];exact⟨hfi,hxi⟩
      exact c3 _ (List.mem_of_getElem? hz2)
     rw[List.drop_zero,c2,<-hl,List.take_length]at key;exact key
    ·cases hv
   ·cases hv
  ·cases hv
def Ux:DV->Value
 | .int k n=>.int k n
 | .str s=>.string ⟨s.toArray⟩
 |_=>undef
def Yp:DV->Bool
 | .int _ _=>true
 | .str _=>true
 |_=>false
theorem rH{P:Program}{W:World}{name:String}{g g':Nat}{t t':TypeId}{cs:Array Value}{fuel n:Nat}{p:List MemPlace}{d:DataW Unit}{ds:List DV}{enc:TypeId×Value->Unit}{base:Nat}{sp:Nat->Bool}{held:Bool}
 (hg:P.globalNamed name=some g)(hty:(P.globals[g]?).map (·.type)=some t)(hg':P.globalNamed name=some g')(ht':(P.globals[g']?).map (·.type)=some t')(hvar:W.var? P name=some cs)
 (hd:DataW.trod enc P W base sp held fuel t' cs.toList=some (d,p))(hlit:vB P n t d=some (ds.map Ux))(hfl:ds.all Yp=true):
 RD W (λ_=>False) (.ro ds) (.pointer (some ⟨g,0,none⟩))/\∃arr t fz,W.heap[g]? =some (.cells arr t fz)/\arr.size=ds.length:=by
 obtain rfl:=Option.some.inj (hg.symm.trans hg');obtain rfl:=Option.some.inj (hty.symm.trans ht');have hc:=QP n fuel t cs.toList d p _ hd hlit;have hsz:cs.size=ds.length:=by
  have:=congrArg List.length hc;simpa using this
 have hblk:∃ty fz,W.heap[g]? =some (.cells cs ty fz):=by
  unfold World.var? at hvar;rw[hg]at hvar;simp only[Option.bind_some]at hvar;split at hvar
  ·rename_i c ty fz hh;cases hvar;exact⟨ty,fz,hh⟩
  ·cases hvar
 obtain⟨ty,fz,hblk⟩:=hblk;refine⟨.ro ds g 0 (ds.map Ux) (λh=>h) (by simp) (λu hu=>?_) (Array.getElem?_eq_some_iff.1 hblk).1 (λj u hj=>?_) (λi x v hx hv=>?_),cs,ty,fz,hblk,hsz⟩
 ·obtain⟨x,hx,rfl⟩:=List.mem_map.1 hu;have:=List.all_eq_true.1 hfl x hx;cases x<;>first|rfl|cases this
 ·have:=World.var?_cell hg hvar j;rw[Nat.zero_add,this,<-hj,<-hc];simp
 ·rw[List.getElem?_map,hx]at hv;cases hv;have:=List.all_eq_true.1 hfl x (List.mem_of_getElem? hx);cases x with
  |int k n=>exact .int k n
  |str s=>exact .str s
  |_=>cases this
theorem YQ{w:World}(s:ByteArray):RD w (λ_=>False) (.str s.data.toList) (.string s):=by
 have:=RD.str (w:=w) (E:=λ_=>False) s.data.toList
 rwa[qL]at this
end Go.Eng
namespace Go.Proofs.YtjdlbidjlfllcaaGreatDoor.crA
open Go.Eng
theorem gl{W:World}(h:laidMetH Tryz.prog Rows.typingChecksRow.laid W):wP W (λ_=>False):=by
 have h:laidMet Tryz.prog Rows.typingChecksRow.laid W:=h;obtain⟨ps,⟨g1,t1,c1,f1,p1,q1,n1,y1,v1,d1,⟨g2,t2,c2,f2,p2,q2,n2,y2,v2,d2,⟨g3,t3,c3,f3,p3,q3,n3,y3,v3,d3,⟨g4,t4,c4,f4,p4,q4,n4,y4,v4,d4,⟨g5,t5,c5,f5,p5,q5,n5,y5,v5,d5,⟨g6,t6,c6,f6,p6,q6,n6,y6,v6,d6,⟨g7,t7,c7,f7,p7,q7,n7,y7,v7,d7,⟨g8,t8,c8,f8,p8,q8,n8,y8,v8,d8,_,_⟩,_⟩,_⟩,_⟩,_⟩,_⟩,_⟩,_⟩,_⟩:=h;intro n cs hn
 match n,hn with
 |0,hn=>cases hn;exact rH (n:=4) (g:=0) (t:=170) (by kernel_rfl) (by kernel_rfl) n6 y6 v6 d6 (by kernel_rfl) (by kernel_rfl)
 |1,hn=>cases hn;exact rH (n:=4) (g:=1) (t:=191) (by kernel_rfl) (by kernel_rfl) n8 y8 v8 d8 (by kernel_rfl) (by kernel_rfl)
 |2,hn=>cases hn
 |3,hn=>cases hn;exact rH (n:=4) (g:=3) (t:=219) (by kernel_rfl) (by kernel_rfl) n7 y7 v7 d7 (by kernel_rfl) (by kernel_rfl)
 |4,hn=>cases hn
 |5,hn=>cases hn
 |6,hn=>cases hn;exact rH (n:=4) (g:=6) (t:=237) (by kernel_rfl) (by kernel_rfl) n3 y3 v3 d3 (by kernel_rfl) (by kernel_rfl)
 |7,hn=>cases hn;exact rH (n:=4) (g:=7) (t:=239) (by kernel_rfl) (by kernel_rfl) n1 y1 v1 d1 (by kernel_rfl) (by kernel_rfl)
 |8,hn=>cases hn;exact rH (n:=4) (g:=8) (t:=240) (by kernel_rfl) (by kernel_rfl) n2 y2 v2 d2 (by kernel_rfl) (by kernel_rfl)
 |n+9,hn=>cases hn
abbrev rangeS:ByteArray:={data:= #[118,97,108,117,101,32,111,117,116,32,111,102,32,114,97,110,103,101]}
abbrev syntaxS:ByteArray:={data:= #[105,110,118,97,108,105,100,32,115,121,110,116,97,120]}
noncomputable def low:Nat:=(World.holding Tryz.prog default ⟨#[],#[],[]⟩).heap.size
noncomputable def held(g:Nat)(cs:Array Value):Array Value:=match g with
 |4=> #[.iface 233 (.pointer (some ⟨low+1,0,none⟩))]
 |5=> #[.iface 233 (.pointer (some ⟨low,0,none⟩))]
 |g=>match globD g with
  |some ds=>(ds.map Ux).toArray
  |none=>cs
noncomputable def laidObj(h:Array Obj)(g:Nat):Array Obj:=h.modify g λ
 | .cells cs t frozen=>.cells (held g cs) t frozen
 |o=>o
noncomputable def laidWorld(os:Os):World:=
 let w0:=World.holding Tryz.prog os ⟨#[.cells #[.string rangeS] 235,.cells #[.string syntaxS] 235],#[],[]⟩
 {w0 with heap:=(List.range 9).foldl laidObj w0.heap}
theorem laidWorld_met(os:Os)(args:Array Value):laidMet Tryz.prog Rows.typingChecksRow.laid ((laidWorld os).forCall (λ_ _=>0) ⟨#[],args,[]⟩).memory:=
 laidMet_of_run' 8 (by kernel_rfl) (by kernel_rfl)
end Go.Proofs.YtjdlbidjlfllcaaGreatDoor.crA
