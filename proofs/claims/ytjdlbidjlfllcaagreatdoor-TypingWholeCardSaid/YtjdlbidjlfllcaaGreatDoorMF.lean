/- Part 6 of the proof. No condition. -/
import Derived.Test.YtjdlbidjlfllcaaGreatDoorME
import Derived.Shelf.SortM.Plain
import Derived.Shelf.SortM.SortNone
import Derived.Shelf.SlGeneric
import Derived.Test.YtjdlbidjlfllcaaGreatDoorProg
import Derived.RangeFuncNested
import Derived.Maps.RangeRun
import Derived.Shelf.SlIter.Collect
import Derived.Shelf.Strconv.Atoi
open Go.Proofs
set_option linter.unusedVariables false
set_option linter.unusedSimpArgs false
set_option maxRecDepth 20000
set_option maxHeartbeats 4000000
namespace Go.Eng
section
attribute[local simp] hZ.cond Nd.d_eq nd_t nd_dr nd_td ndsD
theorem nQ(l:aJ):l.isEmpty=decide (l=[]):=by cases l<;>simp
def PG(l:List (Int×Int)):List DV:=l.flatMap λp=>[aH p.1,aH p.2]
theorem GA:Ct=PG boundsL:=by kernel_rfl
theorem Dk:Ct.length=74:=by kernel_rfl
theorem EC:∀(l:List (Int×Int)) (k:Nat),k<l.length->(PG l)[k*2]?.getD default=aH (l.getD k (0,0)).1/\(PG l)[k*2+1]?.getD default=aH (l.getD k (0,0)).2
 |p::l,0,_=>⟨rfl,rfl⟩
 |p::l,k+1,h=>by
  have ih:=EC l k (by simpa using h);have e:PG (p::l)=aH p.1::aH p.2::PG l:=rfl;rw[e,show(k+1)*2=k*2+1+1 by omega];exact ih
theorem GB{k:Int}(h:0<=k/\k<37):Ct[k.toNat*2]?.getD default=aH (loAt k):=by
 rw[GA];exact(EC boundsL k.toNat (by rw[bounds_len];omega)).1
theorem GC{k:Int}(h:0<=k/\k<37):Ct[k.toNat*2+1]?.getD default=aH (hiAt k):=by
 rw[GA];exact(EC boundsL k.toNat (by rw[bounds_len];omega)).2
theorem PH(c:UInt8)(s:aJ):(uL c s).length<=s.length:=by
 unfold uL;cases h:cutAt c s with
 |none=>simp
 |some q=>have:=xR h;simp;omega
theorem PI(c:UInt8)(s:aJ):(uM c s).length<=s.length:=by
 unfold uM;cases h:cutAt c s with
 |none=>simp
 |some q=>have:=xR h;simp;omega
theorem tD(t:aJ):fieldB t=(wA 46 t&&wholeB (uL 46 t) true&&wholeB (uM 46 t) true):=by
 unfold fieldB wA uL uM;cases cutAt 46 t with
 |none=>rfl
 |some q=>rfl
theorem MA(x:Nd)(hk:0<=x.kind/\x.kind<37)(hl:x.text.length<=9223372036854775807):Ok Tryz.prog 165 [x.d] ⟨.d (.bool (wordedB x)),true⟩:=by
 refine bF Tryz.func165 rfl Tryz.ntmps165 Tryz.results165 λw0 X hp=>?_;refine aA ?_;simp;refine aD ?_;refine aD ?_;have hg1:=GB hk;have hg2:=GC hk;have hg3:=Dk;refine eO.rd [] [] (λ_=>none) ?_;simp[hg1,hg2];refine⟨⟨⟨⟨hk,by omega⟩,λ_=>hk⟩,λ_=>by omega⟩,?_⟩;refine aC ?_;simp;refine⟨λg=>?_,λg1 g2=>?_⟩
 ·refine aA ?_;simp;refine aF ?_;simp;unfold wordedB wordedK;rw[Bool.eq_false_iff];intro h;simp only[Bool.and_eq_true,decide_eq_true_eq]at h;omega
 ·refine aE ?_;simp;refine aD ?_;refine aA ?_;simp;refine aL ?_;refine aZ (ι:=BC) (λ⟨b⟩=>aQ [(1,.bx 1 0),(25,.d (aH x.kind)),(26,.d (.bool b))]) (λ⟨b⟩=>aG [(1,.box false [.d (aH x.kind),.d (.str x.text),.d (aH x.n),.d (ndsD x.kids)])]) (λ⟨b⟩=>b=true↔(x.kind=9\/x.kind=19\/x.kind=20\/x.kind=33)) ?_ λ⟨b⟩ hc8=>?_
  ·refine aA ?_;simp;refine aC ?_;simp;refine⟨λh4=>?_,λh4=>?_⟩
   ·refine aE ?_;simp;refine RJ.mk ⟨decide (x.kind=9)⟩ (aB hp [1,25,26] [(1,1)]) ?_;simp[h4]
   ·refine aA ?_;simp;refine aC ?_;simp;refine⟨λh5=>?_,λh5=>?_⟩
    ·refine aE ?_;simp;refine RJ.mk ⟨decide (x.kind=19)⟩ (aB hp [1,25,26] [(1,1)]) ?_;simp[h5]
    ·refine aA ?_;simp;refine aC ?_;simp;refine⟨λh6=>?_,λh6=>?_⟩
     ·refine aE ?_;simp;refine RJ.mk ⟨decide (x.kind=20)⟩ (aB hp [1,25,26] [(1,1)]) ?_;simp[h6]
     ·refine aM ?_;simp;refine RJ.mk ⟨decide (x.kind=33)⟩ (aB hp [1,25,26] [(1,1)]) ?_;simp only[decide_eq_true_eq];omega
  ·refine aC ?_;simp;refine⟨λh8=>?_,λh8=>?_⟩
   ·have q8:=hc8.1 h8;refine aD ?_;have hw:=vY x.text false hl;refine eO.ro hT hW (λ|33=>some<| .plain ⟨.d (.bool (wholeB x.text false)),true⟩|_=>none) ?_;simp;refine⟨hw,?_⟩;refine aF ?_;simp;unfold wordedB wordedK textB;simp only[g1,g2,decide_true,Bool.true_and];repeat(first|rw[if_pos (by omega)]|rw[if_neg (by omega)])
    try rw[tD]
    try simp
    try exact nQ _
   ·have q8:¬(x.kind=9\/x.kind=19\/x.kind=20\/x.kind=33):=λq=>by simp[hc8.2 q]at h8
    refine aA ?_;simp;refine aC ?_;simp;refine⟨λh9=>?_,λh9=>?_⟩
    ·refine aD ?_;have hc:=PF x.text 46 hl;refine eO.ro hT hW (λ|39=>some<| .plain ⟨.tup [.d (.str (uL 46 x.text)),.d (.str (uM 46 x.text)),.d (.bool (wA 46 x.text))],true⟩|_=>none) ?_;simp[aR];refine⟨hc,?_⟩;refine aD ?_;have hw1:=vY (uL 46 x.text) true (by have:=PH 46 x.text;omega);have hw2:=vY (uM 46 x.text) true (by have:=PI 46 x.text;omega);refine eO.ro hT hW (λ|46=>some<| .plain ⟨.d (.bool (wholeB (uL 46 x.text) true)),true⟩|50=>some<| .plain ⟨.d (.bool (wholeB (uM 46 x.text) true)),true⟩|_=>none) ?_;simp;refine⟨⟨λ_=>hw1,λ_ _=>hw2⟩,?_⟩;refine aF ?_;simp;unfold wordedB wordedK textB;simp only[g1,g2,decide_true,Bool.true_and];repeat(first|rw[if_pos (by omega)]|rw[if_neg (by omega)])
     try rw[tD]
     try simp
     try exact nQ _
    ·refine aZ (ι:=BC) (λ⟨b⟩=>aQ [(1,.bx 1 0),(25,.d (aH x.kind)),(52,.d (.bool b))]) (λ⟨b⟩=>aG [(1,.box false [.d (aH x.kind),.d (.str x.text),.d (aH x.n),.d (ndsD x.kids)])]) (λ⟨b⟩=>b=true↔(x.kind=8\/x.kind=10\/x.kind=11\/x.kind=12\/x.kind=21\/x.kind=24\/x.kind=25\/x.kind=26\/x.kind=27\/x.kind=28\/x.kind=29\/x.kind=30\/x.kind=31\/x.kind=32\/x.kind=36)) ?_ λ⟨b⟩ hc27=>?_
     ·refine aA ?_;simp;refine aC ?_;simp;refine⟨λh12=>?_,λh12=>?_⟩
      ·refine aE ?_;simp;refine RJ.mk ⟨decide (x.kind=8)⟩ (aB hp [1,25,52] [(1,1)]) ?_;simp[h12]
      ·refine aA ?_;simp;refine aC ?_;simp;refine⟨λh13=>?_,λh13=>?_⟩
       ·refine aE ?_;simp;refine RJ.mk ⟨decide (x.kind=10)⟩ (aB hp [1,25,52] [(1,1)]) ?_;simp[h13]
       ·refine aA ?_;simp;refine aC ?_;simp;refine⟨λh14=>?_,λh14=>?_⟩
        ·refine aE ?_;simp;refine RJ.mk ⟨decide (x.kind=11)⟩ (aB hp [1,25,52] [(1,1)]) ?_;simp[h14]
        ·refine aA ?_;simp;refine aC ?_;simp;refine⟨λh15=>?_,λh15=>?_⟩
         ·refine aE ?_;simp;refine RJ.mk ⟨decide (x.kind=12)⟩ (aB hp [1,25,52] [(1,1)]) ?_;simp[h15]
         ·refine aA ?_;simp;refine aC ?_;simp;refine⟨λh16=>?_,λh16=>?_⟩
          ·refine aE ?_;simp;refine RJ.mk ⟨decide (x.kind=21)⟩ (aB hp [1,25,52] [(1,1)]) ?_;simp[h16]
          ·refine aA ?_;simp;refine aC ?_;simp;refine⟨λh17=>?_,λh17=>?_⟩
           ·refine aE ?_;simp;refine RJ.mk ⟨decide (x.kind=24)⟩ (aB hp [1,25,52] [(1,1)]) ?_;simp[h17]
           ·refine aA ?_;simp;refine aC ?_;simp;refine⟨λh18=>?_,λh18=>?_⟩
            ·refine aE ?_;simp;refine RJ.mk ⟨decide (x.kind=25)⟩ (aB hp [1,25,52] [(1,1)]) ?_;simp[h18]
            ·refine aA ?_;simp;refine aC ?_;simp;refine⟨λh19=>?_,λh19=>?_⟩
             ·refine aE ?_;simp;refine RJ.mk ⟨decide (x.kind=26)⟩ (aB hp [1,25,52] [(1,1)]) ?_;simp[h19]
             ·refine aA ?_;simp;refine aC ?_;simp;refine⟨λh20=>?_,λh20=>?_⟩
              ·refine aE ?_;simp;refine RJ.mk ⟨decide (x.kind=27)⟩ (aB hp [1,25,52] [(1,1)]) ?_;simp[h20]
              ·refine aA ?_;simp;refine aC ?_;simp;refine⟨λh21=>?_,λh21=>?_⟩
               ·refine aE ?_;simp;refine RJ.mk ⟨decide (x.kind=28)⟩ (aB hp [1,25,52] [(1,1)]) ?_;simp[h21]
               ·refine aA ?_;simp;refine aC ?_;simp;refine⟨λh22=>?_,λh22=>?_⟩
                ·refine aE ?_;simp;refine RJ.mk ⟨decide (x.kind=29)⟩ (aB hp [1,25,52] [(1,1)]) ?_;simp[h22]
                ·refine aA ?_;simp;refine aC ?_;simp;refine⟨λh23=>?_,λh23=>?_⟩
                 ·refine aE ?_;simp;refine RJ.mk ⟨decide (x.kind=30)⟩ (aB hp [1,25,52] [(1,1)]) ?_;simp[h23]
                 ·refine aA ?_;simp;refine aC ?_;simp;refine⟨λh24=>?_,λh24=>?_⟩
                  ·refine aE ?_;simp;refine RJ.mk ⟨decide (x.kind=31)⟩ (aB hp [1,25,52] [(1,1)]) ?_;simp[h24]
                  ·refine aA ?_;simp;refine aC ?_;simp;refine⟨λh25=>?_,λh25=>?_⟩
                   ·refine aE ?_;simp;refine RJ.mk ⟨decide (x.kind=32)⟩ (aB hp [1,25,52] [(1,1)]) ?_;simp[h25]
                   ·refine aM ?_;simp;refine RJ.mk ⟨decide (x.kind=36)⟩ (aB hp [1,25,52] [(1,1)]) ?_;simp only[decide_eq_true_eq];omega
     ·refine aC ?_;simp;refine⟨λh27=>?_,λh27=>?_⟩
      ·have q27:=hc27.1 h27;refine aA ?_;simp;refine aF ?_;simp;unfold wordedB wordedK textB;simp only[g1,g2,decide_true,Bool.true_and];repeat(first|rw[if_pos (by omega)]|rw[if_neg (by omega)])
       try rw[tD]
       try simp
       try exact nQ _
      ·have q27:¬(x.kind=8\/x.kind=10\/x.kind=11\/x.kind=12\/x.kind=21\/x.kind=24\/x.kind=25\/x.kind=26\/x.kind=27\/x.kind=28\/x.kind=29\/x.kind=30\/x.kind=31\/x.kind=32\/x.kind=36):=λq=>by simp[hc27.2 q]at h27
       refine aE ?_;simp;refine aD ?_;have hw:=vY x.text true hl;refine eO.ro hT hW (λ|73=>some<| .plain ⟨.d (.bool (wholeB x.text true)),true⟩|_=>none) ?_;simp;refine⟨hw,?_⟩;refine aF ?_;simp;unfold wordedB wordedK textB;simp only[g1,g2,decide_true,Bool.true_and];repeat(first|rw[if_pos (by omega)]|rw[if_neg (by omega)])
       try rw[tD]
       try simp
       try exact nQ _
end
section
attribute[local simp] hZ.cond Nd.d_eq nd_t nd_dr nd_td ndsD
theorem MB(x:Nd)(hx:Ok Tryz.prog 130 [x.d] ⟨.d (.bool (rightN x)),true⟩):Ok Tryz.prog 166 [x.d] ⟨.d (.bool (!rightN x)),true⟩:=by
 refine bF Tryz.func166 rfl Tryz.ntmps166 Tryz.results166 λw0 X hp=>?_;refine aA ?_;simp;refine aX hT hW (λ|4=>some<| .plain ⟨.d (.bool (rightN x)),true⟩|_=>none) ?_;simp;refine⟨by simpa using hx,?_⟩;refine aF ?_;simp
theorem Jd(x:Nd)(hw:weighN x<=1000000000)(ih:∀y∈x.kids,weighN y<=1000000000->Ok Tryz.prog 130 [y.d] ⟨.d (.bool (rightN y)),true⟩):Ok Tryz.prog 130 [x.d] ⟨.d (.bool (rightN x)),true⟩:=by
 refine bF Tryz.func130 rfl Tryz.ntmps130 Tryz.results130 λw0 X hp=>?_;refine aA ?_;simp;refine aD ?_;have hs:=Mt x;have hwo:=MA x;have hl:x.text.length<=9223372036854775807:=by have:=weighN_eq x;omega
 have ha:=Gu x.kids (λy=> !rightN y) 166 [] (λy hy=>MB y (ih y hy (by have:=weigh_mem hy;have:=weighN_eq x;omega)));refine eO.ro hT hW (λ|13=>some<| .plain ⟨.d (.bool (shapedB x)),true⟩|17=>some<| .plain ⟨.d (.bool (wordedB x)),true⟩|22=>some<| .plain ⟨.d (.bool (x.kids.any λy=> !rightN y)),true⟩|_=>none) ?_;simp;refine⟨⟨⟨λ_ _=>by simpa using hs,λh0 h1 _=>by simpa using hwo ⟨h0,h1⟩ hl⟩,λ_ _ _ _=>ha⟩,?_⟩;refine aF ?_;simp;rw[rightN_eq,List.all_eq_not_any_not]
theorem PJ(x:Nd):weighN x<=1000000000->Ok Tryz.prog 130 [x.d] ⟨.d (.bool (rightN x)),true⟩:=
 mS (p:=λx=>weighN x<=1000000000->Ok Tryz.prog 130 [x.d] ⟨.d (.bool (rightN x)),true⟩) (λ_ _ _ _ ih hw=>Jd _ hw (λy hy=>ih y hy)) x
theorem GD(x:Nd)(hw:weighN x<=1000000000):Ok Tryz.prog 74 [x.d] ⟨.d (.bool (validB x)),true⟩:=by
 refine bF Tryz.func74 rfl Tryz.ntmps74 Tryz.results74 λw0 X hp=>?_;refine aA ?_;simp;refine aD ?_;have h1:=Pr x hw;have h2:=PJ x hw;have h3:=KJ x;have h4:=@Db x;refine eO.ro hT hW (λ|13=>some<| .plain ⟨.d (aH (depthN x)),true⟩|18=>some<| .plain ⟨.d (.bool (rightN x)),true⟩|22=>some<| .plain ⟨.d (.str (textT x)),true⟩|_=>none) ?_;simp;refine⟨⟨⟨λ_ _=>by simpa using h1,λ_ _ _=>by simpa using h2⟩,λa b _ d=>by simpa using h3 (h4 d a b) hw⟩,?_⟩;refine aF ?_;simp[validB];rw[show decide ((depthN x:Int)<=24)=decide (depthN x<=24) from by rw[decide_eq_decide];omega,show decide (((textT x).length:Int)<=1024)=decide ((textT x).length<=1024) from by rw[decide_eq_decide];omega]
theorem MC{x:Nd}(h:validB x=true):TF x:=by
 simp only[validB,Bool.and_eq_true,decide_eq_true_eq]at h;exact Db h.1.2 h.1.1.1.1 h.1.1.1.2
theorem PK(x:Nd)(hw:weighN x<=1000000000):Ok Tryz.prog 105 [x.d] ⟨.d (.str (printS x)),true⟩:=by
 refine bF Tryz.func105 rfl Tryz.ntmps105 Tryz.results105 λw0 X hp=>?_;refine aA ?_;simp;refine aD ?_;refine aD ?_;have v1:=GD x hw;refine eO.ro hT hW (λ|4=>some<| .plain ⟨.d (.bool (validB x)),true⟩|_=>none) ?_;simp;refine⟨by simpa using v1,?_⟩;refine aC ?_;simp;refine⟨λh1=>?_,λh1=>?_⟩
 ·refine aA ?_;simp;refine aF ?_;simp[printS,h1]
 ·refine aE ?_;simp;refine aD ?_;have hv:=MC h1;have h4:=KJ x hv hw;refine eO.ro hT hW (λ|7=>some<| .plain ⟨.d (.str (textT x)),true⟩|_=>none) ?_;simp;refine⟨by simpa using h4,?_⟩;refine aF ?_;simp[printS,h1]
end
section
attribute[local simp] hZ.cond Nd.d_eq nd_t nd_dr nd_td ndsD aO uE
theorem Je:Ok Tryz.prog 76 [] ⟨.d fitD,false⟩:=by
 refine bF Tryz.func76 rfl Tryz.ntmps76 Tryz.results76 λw0 X hp=>?_;refine aA ?_;simp;refine aA ?_;simp[bN];refine aF ?_;simp[fitD,Dj,rO]
theorem ED(x:Nd):Ok Tryz.prog 45 [x.d] ⟨.d (.fn 75 [.ro [aH x.kind,.str x.text,aH x.n,ndsD x.kids]]),false⟩:=by
 refine bF Tryz.func45 rfl Tryz.ntmps45 Tryz.results45 λw0 X hp=>?_;refine aA ?_;simp;refine aA ?_;simp;refine aF ?_;simp
structure EE(F:Ky Tryz.prog)(y wv:Value)(us:List bZ):Prop where
 yield:∀(i:Nat) (u:bZ),us[i]? =some u->lM F (.val y) [aH u.bk,u.d] i 1 (.bool true)
 walk:∀K i W,F.T K i W->RD W (F.X K W) (.fn 77 [.ro [fitD],.ro [.val y],.ro [.val wv]]) wv
def uN(F:Ky Tryz.prog)(wv:Value)(us:List bZ)(x:Nd):Prop:=
 ∀i,(∀(j:Nat) (u:bZ),(aW x)[j]? =some u->us[i+j]? =some u)->lM F (.val wv) [x.d] i (aW x).length (.bool true)
theorem EF{b:Bool}(w:World)(E:Nat->Prop)(v:Value)(h:RD w E (.bool b) v):v=.bool b:=by cases h;rfl
theorem TI{n:Int}(w:World)(E:Nat->Prop)(v:Value)(h:RD w E (aH n) v):v=.int .i64 n:=by cases h;rfl
theorem TJ{F:Ky Tryz.prog}{wv:Value}{us:List bZ}{x:Nd}(h:uN F wv us x)(i:Nat)(hu:∀(j:Nat) (u:bZ),(aW x)[j]? =some u->us[i+j]? =some u):
 lM F (.fn 80 [.ro [.val wv]]) [x.d] i (aW x).length (.bool false):=by
 have hc:=h i hu;refine iB (pins:=[2]) Tryz.func80 (by kernel_rfl) (c:=_) rfl Tryz.ntmps80 (by simp) Tryz.results80 EF (by kernel_rfl) ?_;repeat refine Ah.seq ?_
 refine Be λw0 X hp=>IT hT hW ?_;simp[eZ];refine rK (λw0 hp=>(fI.freeze [2]).trans (lL [1,2] [(2,2)] (by decide) (by decide) (by simp[hp,cV]) rfl rfl)) ?_;simp;repeat refine Ah.seq ?_
 refine kE hT hW [(2,.box true [.d (aH x.kind),.d (.str x.text),.d (aH x.n),.d (.sl (x.kids.map Nd.d))])] rfl (by rfl) (by simp) 2 rfl rfl rfl rfl (by decide) (rd:=.bool true) (r:=.bool true) (λ_ _=>.bool _) hc ?_;simp[eZ];refine⟨rfl,?_⟩;refine Ah.ret ?_;exact⟨trivial,rfl,by simp⟩
theorem EG{us:List bZ}{a b:List bZ}{i:Nat}(h:∀(j:Nat) (u:bZ),(a++b)[j]? =some u->us[i+j]? =some u):(∀(j:Nat) (u:bZ),a[j]? =some u->us[i+j]? =some u)/\∀(j:Nat) (u:bZ),b[j]? =some u->us[i+a.length+j]? =some u:=by
 refine⟨λj u hj=>h j u ?_,λj u hj=>?_⟩
 ·have:=(List.getElem?_eq_some_iff.1 hj).1;rw[List.getElem?_append_left this];exact hj
 ·rw[Nat.add_assoc];exact h (a.length+j) u (by rw[List.getElem?_append_right (by omega)];rw[show a.length+j-a.length=j by omega];exact hj)
theorem RZ{F:Ky Tryz.prog}{wv:Value}{us:List bZ}{ks:List Nd}(h:∀k∈ks,uN F wv us k)(i:Nat)(hu:∀(j:Nat) (u:bZ),(eU ks)[j]? =some u->us[i+j]? =some u):
 lM F (.fn 133 []) [ndsD ks,.fn 80 [.ro [.val wv]]] i (eU ks).length (.int .i64 (-1)):=by
 refine iB (pins:=[]) Tryz.func133 (by kernel_rfl) (c:=_) rfl Tryz.ntmps133 (by simp) Tryz.results133 TI (by kernel_rfl) ?_;refine Ah.len (t:=0) rfl λhlen=>?_;simp at hlen;repeat refine Ah.seq ?_
 refine gN hT hW (λ_=>none) ?_;simp[eZ];repeat refine Ah.seq ?_
 refine gN hT hW (λ_=>none) ?_;simp[eZ];repeat refine Ah.seq ?_
 refine Ah.block ?_;refine Ah.loop (ι:=Nat) (λj=>aQ [(0,.d (ndsD ks)),(1,.d (.fn 80 [.ro [.val wv]])),(7,.d (aH (ks.length:Nat))),(8,.d (aH (j:Nat)))]) (λ_=>aG []) (λj=>i+(eU (ks.take j)).length) (λj=>j<=ks.length) (λj=>ks.length-j) 0
  (λw0 hp=>aB hp [0,1,7,8] []) rfl (Nat.zero_le _) λj hj=>?_
 repeat refine Ah.seq ?_
 refine gN hT hW (λ_=>none) ?_;simp[eZ];repeat refine Ah.seq ?_
 refine Ah.cond (b:=decide (j<ks.length)) (by simp) (λhlt=>?_) λhge=>?_
 ·have hlt:j<ks.length:=by simpa using hlt
  obtain⟨k,hk⟩:∃k,ks[j]=k:=⟨_,rfl⟩;have hkm:k∈ks:=by rw[<-hk];exact List.getElem_mem hlt
  have hsplit:eU ks=eU (ks.take j)++(aW k++eU (ks.drop (j+1))):=by
   conv=>lhs;rw[<-List.take_append_drop j ks]
   rw[usesL_append,List.drop_eq_getElem_cons hlt,eU,hk]
  have hc:=TJ (h k hkm) (i+(eU (ks.take j)).length) (EG (EG (by rw[<-hsplit];exact hu)).2).1;have hnext:(eU (ks.take (j+1))).length=(eU (ks.take j)).length+(aW k).length:=by rw[usesL_succ hlt,List.length_append,hk]
  refine Ah.skip ?_;simp[eZ];repeat refine Ah.seq ?_
  refine Ah.block ?_;repeat refine Ah.seq ?_
  refine gN hT hW (λ_=>none) ?_;simp[eZ];repeat refine Ah.seq ?_
  refine kE hT hW [] rfl (by rfl) (by simp) 5 rfl rfl rfl rfl (by decide) (rd:=.bool false) (r:=.bool false) (λ_ _=>.bool _) hc ?_;simp[eZ,hlt,hk];refine⟨rfl,?_⟩;refine Ah.cond (b:=false) (by simp) (λh=>by cases h) λ_=>?_;refine Ah.skip ?_;simp[eZ,Ai];refine gN hT hW (λ_=>none) ?_;simp[eZ];refine⟨by omega,j+1,λw0 hp=>aB hp [0,1,7,8] [],by omega,by omega,by omega⟩
 ·have hge:¬j<ks.length:=by simpa using hge
  have he:j=ks.length:=by omega
  subst he;refine Ah.exit ?_;simp[eZ,Ai];repeat refine Ah.seq ?_
  refine gN hT hW (λ_=>none) ?_;simp[eZ];refine Ah.ret ?_;exact⟨trivial,by simp,by simp⟩
theorem KL{F:Ky Tryz.prog}{wv:Value}{us:List bZ}{ks:List Nd}(h:∀k∈ks,uN F wv us k)(i:Nat)(hu:∀(j:Nat) (u:bZ),(eU ks)[j]? =some u->us[i+j]? =some u):
 lM F (.fn 79 []) [ndsD ks,.fn 80 [.ro [.val wv]]] i (eU ks).length (.bool false):=by
 have hc:=RZ h i hu;refine iB (pins:=[]) Tryz.func79 (by kernel_rfl) (c:=_) rfl Tryz.ntmps79 (by simp) Tryz.results79 EF (by kernel_rfl) ?_;repeat refine Ah.seq ?_
 refine gN hT hW (λ_=>none) ?_;simp[eZ];repeat refine Ah.seq ?_
 refine kE hT hW [] rfl (by rfl) (by simp) 2 rfl rfl rfl rfl (by decide) (rd:=aH (-1)) (r:=.int .i64 (-1)) (λ_ _=>.int _ _) hc ?_;simp[eZ];refine⟨rfl,?_⟩;refine Ah.ret ?_;exact⟨trivial,rfl,by simp⟩
theorem PL{x:Nd}(h:Dj.findIdx? (λy=>decide (x.kind=y))=none):aW x=eU x.kids:=by rw[usesN_eq];unfold tC TH;rw[h];rfl
theorem GE{x:Nd}{j:Nat}(h:Dj.findIdx? (λy=>decide (x.kind=y))=some j):aW x=⟨x.kind,rO.getD j 0,uL 46 x.text,uM 46 x.text⟩::eU x.kids:=by rw[usesN_eq];unfold tC TH;rw[h];rfl
theorem TL{j:Nat}:(rO.map aH)[j]?.getD default=aH (rO.getD j 0)\/rO.length<=j:=by
 by_cases h:j<rO.length
 ·left;simp[h,List.getD_eq_getElem?_getD]
 ·right;omega
theorem MD{F:Ky Tryz.prog}{y wv:Value}{us:List bZ}(C:EE F y wv us)(x:Nd)(hw:weighN x<=1000000000)(h:∀k∈x.kids,uN F wv us k):uN F wv us x:=by
 intro i hu;have body:lM F (.fn 77 [.ro [fitD],.ro [.val y],.ro [.val wv]]) [x.d] i (aW x).length (.bool true):=by
  have hwx:=weighN_eq x;refine iB (pins:=[4]) Tryz.func77 (by kernel_rfl) (c:=_) rfl Tryz.ntmps77 (by simp) Tryz.results77 EF (by kernel_rfl) ?_;repeat refine Ah.seq ?_
  refine gN hT hW (λ_=>none) ?_;simp[eZ];refine rK (λw0 hp=>(fI.freeze [4]).trans (lL [1,2,3,4] [(4,4)] (by decide) (by decide) (by simp[hp,cV]) rfl rfl)) ?_;simp;cases e:Dj.findIdx? (λy=>decide (x.kind=y))with
  |none=>
   rw[PL e]at hu|-;have hc:=KL h i hu;repeat refine Ah.seq ?_
   refine gN hT hW (λ_=>none) ?_;simp[eZ,cB,fitD,findD_int,e,aR];repeat refine Ah.seq ?_
   refine gN hT hW (λ_=>none) ?_;simp[eZ];repeat refine Ah.seq ?_
   refine Ah.cond (b:=false) (by simp) (λh=>by cases h) λ_=>?_;refine Ah.skip ?_;simp[eZ];repeat refine Ah.seq ?_
   refine rK (λw0 hp=>lL [3,4] [(4,4)] (by decide) (by decide) (by simp[hp,cV]) rfl rfl) ?_;simp;refine kE hT hW [(4,.box true [.d (aH x.kind),.d (.str x.text),.d (aH x.n),.d (.sl (x.kids.map Nd.d))])] rfl (by rfl) (by simp) 3 rfl rfl rfl rfl (by decide) (rd:=.bool false) (r:=.bool false) (λ_ _=>.bool _) hc ?_;simp[eZ];refine⟨rfl,?_⟩;refine Ah.ret ?_;exact⟨trivial,by simp[Nat.add_assoc],by simp⟩
  |some j=>
   have hj:j<10:=by
    have:=(List.findIdx?_eq_some_iff_getElem.1 e).1;exact this
   have hfit:(rO.map aH)[j]?.getD default=aH (rO.getD j 0):=TL.resolve_right (by show¬10<=j;omega);simp at hfit;obtain⟨f,hf⟩:∃f,rO.getD j 0=f:=⟨_,rfl⟩;rw[GE e,hf]at hu;rw[GE e,hf];simp[List.getD_eq_getElem?_getD]at hf;rw[hf]at hfit;have h0:=hu 0 _ rfl;have hy:=C.yield i _ h0;have hc:=KL h (i+1) (EG (a:=[_]) hu).2;have hcut:=PF x.text 46 (by omega);repeat refine Ah.seq ?_
   refine gN hT hW (λ_=>none) ?_;simp[eZ,cB,fitD,findD_int,e,aR,hfit];repeat refine Ah.seq ?_
   refine gN hT hW (λ_=>none) ?_;simp[eZ];repeat refine Ah.seq ?_
   refine Ah.cond (b:=true) (by simp) (λ_=>?_) λh=>by cases h
   repeat refine Ah.seq ?_
   refine gN hT hW (λ|22=>some (.plain ⟨.tup [.d (.str (uL 46 x.text)),.d (.str (uM 46 x.text)),.d (.bool (wA 46 x.text))],true⟩)|_=>none) ?_;simp[eZ,aR];refine⟨hcut,?_⟩;repeat refine Ah.seq ?_
   refine kE hT hW [(4,.box true [.d (aH x.kind),.d (.str x.text),.d (aH x.n),.d (.sl (x.kids.map Nd.d))])] rfl (by rfl) (by simp) 7 rfl rfl rfl rfl (by decide) (rd:=.bool true) (r:=.bool true) (λ_ _=>.bool _) hy ?_;simp[eZ,bZ.d];refine⟨rfl,?_⟩;repeat refine Ah.seq ?_
   refine Ah.cond (b:=false) (by simp) (λh=>by cases h) λ_=>?_;refine Ah.skip ?_;simp[eZ];repeat refine Ah.seq ?_
   refine rK (λw0 hp=>lL [3,4] [(4,4)] (by decide) (by decide) (by simp[hp,cV]) rfl rfl) ?_;simp;refine kE hT hW [(4,.box true [.d (aH x.kind),.d (.str x.text),.d (aH x.n),.d (.sl (x.kids.map Nd.d))])] rfl (by rfl) (by simp) 3 rfl rfl rfl rfl (by decide) (rd:=.bool false) (r:=.bool false) (λ_ _=>.bool _) hc ?_;simp[eZ];refine⟨rfl,?_⟩;refine Ah.ret ?_;exact⟨trivial,by simp[Nat.add_assoc,Nat.add_comm 1],by simp⟩
 intro K W v vs ht hv hvs;cases hv with
 |val _ _=>exact body K W wv vs ht (C.walk K i W ht) hvs
end
section
open Go.Proofs Go.RowKit
attribute[local simp] hZ.cond Nd.d_eq nd_t nd_dr nd_td ndsD aO bA
theorem PM{F:Ky Tryz.prog}{y wv:Value}{us:List bZ}(C:EE F y wv us)(x:Nd):weighN x<=1000000000->uN F wv us x:=
 mS (p:=λx=>weighN x<=1000000000->uN F wv us x) (λk t n ks ih hw=>MD C (.mk k t n ks) hw λc hc=>ih c hc (by
  have h1:weighN c<=weighL ks:=weigh_mem hc;have h2:weighN (.mk k t n ks)=weighL ks+t.length+1:=weighN_eq _;omega)) x
def wB(u:bZ):RL where
 ds:=[aH u.bk,u.d]
 vs:=[.int .i64 u.bk,.agg #[.int .i64 u.kind,.string ⟨u.name.toArray⟩,.string ⟨u.field.toArray⟩]]
 rd:=λw E=>.cons (.int _ _) (.cons (.agg [aH u.kind,.str u.name,.str u.field] [.int .i64 u.kind,.string ⟨u.name.toArray⟩,.string ⟨u.field.toArray⟩] rfl (by simp[Value.oneCell']) (by
  intro i c v hc hv
  match i,hc,hv with
  |0,hc,hv=>cases hc;cases hv;exact .int _ _
  |1,hc,hv=>cases hc;cases hv;exact .str _
  |2,hc,hv=>cases hc;cases hv;exact .str _)) .nil)
theorem PN{w:World}{E:Nat->Prop}{u:bZ}{vs:List Value}(h:HL w E [aH u.bk,u.d] vs):vs=(wB u).vs:=by
 match vs,h.1 with
 |[a,b],_=>
  have h0:=h.2 0 _ _ rfl rfl;have h1:=h.2 1 _ _ rfl rfl;cases h0;cases h1 with
  |agg _ us hl _ hc=>
   match us,hl with
   |[p,q,r],_=>
    have c0:=hc 0 _ _ rfl rfl;have c1:=hc 1 _ _ rfl rfl;have c2:=hc 2 _ _ rfl rfl;cases c0;cases c1;cases c2;rfl
theorem wC{P:Program}{N:Nat}{w0:cJ}{X:Nat->Prop}{env:dD}{H:cT}{β:Nat->Option Nat}{a:Act}{w:World}{x:Code}{K:Exit->Act->World->Prop}(E':dD)(O':cT)(s:gS N w0 X env H β a w)(hf:w0.flat=true)(hc:kC x=true)
 (h:eO P N w0 X x (Gj w0 E' O') env H)(k:∀β' a' w',gS N w0 X E' O' β' a' w'->K .normal a' w'):x.wpIn (RF none) 0 P K a w:=by
 refine wpIn_mono (h none (.inr ⟨hc,hf⟩) β a w s) ?_;rintro e a' w' ⟨lx,env',H',β',g1,s1,g2,g3⟩;cases lx with
 |exit id=>exact g2.elim
 |ret=>exact g2.elim
 |normal=>
  cases e<;>simp only[eG]at g1;obtain⟨β2,s2⟩:=g3 _ _ _ _ _ s1;exact k β2 a' w' s2
theorem EH{w:World}{E:Nat->Prop}{β:Nat->Option Nat}{H:cT}{id:Nat}{fz:Bool}{l:LV}(h:cU w E β H id)(hH:H id=.box fz [l]):∃b e u,β id=some b/\w.heap[b]? =some (.cells #[u] e (0,0))/\u.oneCell'=true/\Eng.R w E β H l u:=by
 unfold cU at h;rw[hH]at h;obtain⟨b,e,us,h1,h2,h3,h4,h5⟩:=h
 match us,h3 with
 |[u],_=>exact⟨b,e,u,h1,h2,h4 u (by simp),h5 0 _ _ rfl rfl⟩
theorem tE{w:World}{E:Nat->Prop}{β:Nat->Option Nat}{H:cT}{id b off:Nat}{v:Value}(h:Eng.R w E β H (.bx id off) v)(hb:β id=some b)(hl:(H id).live=true):v=.pointer (some ⟨b,off,none⟩):=by
 cases h with
 |bx _ _ b' _ _ _ hb'=>rw[hb]at hb';cases hb';rfl
 |bxdead _ _ _ hH _=>rw[hH]at hl;cases hl
theorem xS(x:Nd)(hw:weighN x<=1000000000):OZ Tryz.prog 75 [.ro [aH x.kind,.str x.text,aH x.n,ndsD x.kids]] ((aW x).map wB):=by
 refine⟨⟨_,Tryz.func75,by kernel_rfl,rfl⟩,?_⟩;intro w X lb l J hX hlb hj0 hjg hjy;obtain⟨yv,hyv⟩:∃yv,yv=Value.func (.yield l) #[] #[]:=⟨_,rfl⟩;rw[<-hyv];refine(callsIn_wide (n:=0)).1 (callsIn_of_wp Tryz.func75 rfl trivial ?_ rfl);have s0:gS 10 ⟨w,λ_=>none,λ_=>.absent,[],true⟩ X (fJ [.val yv,.ro [aH x.kind,.str x.text,aH x.n,ndsD x.kids]]) (aG []) (λ_=>none) ⟨(#[yv]++lb.toArray)++Array.replicate (Tryz.f75.ntmps-(#[yv]++lb.toArray).size) undef,[]⟩ w:=by
  match lb,hlb.1 with
  |[p],_=>
  refine⟨Cu.nil,?_,⟨rfl,rfl,rfl,Nat.le_refl _,λ_ _ _=>rfl,Nat.le_refl _⟩,⟨λk hk=>⟨hX.1 k hk,λ⟨id,h,_⟩=>by cases h⟩,hX.2.anti λk hk=>hk.resolve_right λ⟨id,h,_⟩=>by cases h⟩,λid b hl _=>by simp[aG,dX,aP.live]at hl,λi j b hi _=>by simp[aG,dX,aP.live]at hi,λt=>?_,λid=>?_,λid h=>by cases h⟩
  ·simp[Tryz.ntmps75]
  ·rw[nN]
   match t with
   |0=>exact .d _ _ (by simp;exact .val yv (by rw[hyv];rfl))
   |1=>exact .d _ _ (by
     simp;exact(hlb.2 0 _ _ rfl rfl).anti λk hk=>hk.resolve_right λ⟨id,h1,_⟩=>by simp[aG,dX,aP.mut]at h1)
   |t+2=>exact .junk _
  ·simp[cU,aG,dX]
 generalize hA:(⟨(#[yv]++lb.toArray)++Array.replicate (Tryz.f75.ntmps-(#[yv]++lb.toArray).size) undef,[]⟩:Act)=act at s0|-;clear hA;have kf:=Je;obtain⟨rd,hrd⟩:∃rd:DV,rd=.ro [aH x.kind,.str x.text,aH x.n,ndsD x.kids]:=⟨_,rfl⟩;repeat refine wpIn_seq ?_
 refine wC (aQ [(1,.d rd),(2,.bx 2 0)]) (aG [(2,.box false [.d (.val yv)])]) s0 rfl (by kernel_rfl) ?_ λβ1 a1 w1 s1=>?_
 ·refine aM ?_;simp[hrd];exact lL [1,2] [(2,2)] (by decide) (by decide) (by simp) (by simp) (by simp;rfl)
 show Code.wpIn _ _ _ _ _ _ _;repeat refine wpIn_seq ?_
 refine wC (aQ [(1,.d rd),(2,.bx 2 0),(3,.bx 3 0)]) (aG [(2,.box false [.d (.val yv)]),(3,.box false [.d fitD])]) s1 rfl (by kernel_rfl) ?_ λβ2 a2 w2 s2=>?_
 ·refine eO.ro hT hW (λ|5=>some (.plain ⟨.d fitD,false⟩)|_=>none) ?_;simp;refine⟨⟨kf,rfl⟩,?_⟩;exact lL [1,2,3] [(2,2),(3,3)] (by decide) (by decide) (by simp) (by simp) (by simp;rfl)
 show Code.wpIn _ _ _ _ _ _ _;repeat refine wpIn_seq ?_
 refine wC (aQ [(1,.d rd),(2,.bx 2 0),(3,.bx 3 0),(4,.bx 4 0)]) (aG [(2,.box false [.d (.val yv)]),(3,.box false [.d fitD]),(4,.box false [.d (.val Value.nilFunc)])]) s2 rfl (by kernel_rfl) ?_ λβ3 a3 w3 s3=>?_
 ·refine aM ?_;simp;exact lL [1,2,3,4] [(2,2),(3,3),(4,4)] (by decide) (by decide) (by simp) (by simp) (by simp)
 show Code.wpIn _ _ _ _ _ _ _;repeat refine wpIn_seq ?_
 refine wC (aQ [(1,.d rd),(2,.bx 2 0),(3,.bx 3 0),(4,.bx 4 0)]) (aG [(2,.box true [.d (.val yv)]),(3,.box true [.d fitD]),(4,.box true [.fn 77 [.bx 3 0,.bx 2 0,.bx 4 0]])]) s3 rfl (by kernel_rfl) ?_ λβ4 a4 W2 s4=>?_
 ·refine aM ?_;simp;refine(fI.freeze [2,3,4]).trans (lL [1,2,3,4] [(2,2),(3,3),(4,4)] (by decide) (by decide) (by simp) ?_ ?_)<;>simp
 show Code.wpIn _ _ _ _ _ _ _;have bel:wY w.heap.size w W2:=s4.ext.bel λk ⟨id,h,_⟩=>by cases h
 obtain⟨b2,e2,u2,hb2,hh2,ho2,hr2⟩:=EH (s4.obj 2) (fz:=true) (l:=.d (.val yv)) rfl;obtain⟨b3,e3,u3,hb3,hh3,ho3,hr3⟩:=EH (s4.obj 3) (fz:=true) (l:=.d fitD) rfl;obtain⟨b4,e4,wv,hb4,hh4,ho4,hr4⟩:=EH (s4.obj 4) (fz:=true) (l:=.fn 77 [.bx 3 0,.bx 2 0,.bx 4 0]) rfl;have hu2:u2=yv:=by cases hr2 with|d _ _ h=>cases h;rfl
 subst hu2;have new:∀id b,(aG [(2,aP.box true [.d (.val u2)]),(3,.box true [.d fitD]),(4,.box true [.fn 77 [.bx 3 0,.bx 2 0,.bx 4 0]])] id).live=true->β4 id=some b->w.heap.size<=b/\b<W2.heap.size:=λid b h1 h2=>by
  have h3:=s4.fresh id b h1 h2;refine⟨h3.1.resolve_right λh=>?_,h3.2⟩;obtain⟨⟨i0,h0,_⟩,_⟩:=h;cases h0
 have n2:=new 2 b2 rfl hb2;have n3:=new 3 b3 rfl hb3;have n4:=new 4 b4 rfl hb4;have nomut:∀id,(aG [(2,aP.box true [.d (.val u2)]),(3,.box true [.d fitD]),(4,.box true [.fn 77 [.bx 3 0,.bx 2 0,.bx 4 0]])] id).mut=false:=xG rfl;obtain⟨p3,p2,p4,hwv,hp3,hp2,hp4⟩:∃p3 p2 p4,wv=.func (.func 77) #[] #[p3,p2,p4]/\p3=.pointer (some ⟨b3,0,none⟩)/\p2=.pointer (some ⟨b2,0,none⟩)/\p4=.pointer (some ⟨b4,0,none⟩):=by
  cases hr4 with
  |fn _ _ vs hl hc=>
   match vs,hl with
   |[q3,q2,q4],_=>exact⟨q3,q2,q4,rfl,tE (hc 0 _ _ rfl rfl) hb3 rfl,tE (hc 1 _ _ rfl rfl) hb2 rfl,tE (hc 2 _ _ rfl rfl) hb4 rfl⟩
 have hfit:RD W2 X fitD u3:=by
  cases hr3 with
  |d _ _ h=>exact h.anti λk hk=>.inl hk
 have hGX:tW W2 X:=hX.2.step (λk hk _=>bel.block k hk) bel.size λ_ _ h=>h
 let F:Ky Tryz.prog:={
  T:=λK i W=>J K i W/\(∀k,w.heap.size<=k->k<W2.heap.size->K k)/\W2.heap.size<=W.heap.size/\(∀k,k<W2.heap.size->¬X k->W.heap[k]? =W2.heap[k]?)/\∀k,K k->k<W.heap.size
  S:=λk=>k<W2.heap.size/\¬X k
  grow:=λK i W W' ⟨h1,h2,h3,h4,h5⟩ bel=>⟨hjg K i W W' h1 bel,λk a b=>.inl (h2 k a b),Nat.le_trans h3 bel.size,λk a b=>(bel.block k (by omega)).trans (h4 k a b),λk hk=>by
   have:=bel.size;rcases hk with hk|hk
   ·have:=h5 k hk;omega
   ·exact hk.2⟩
  low:=λK i W k h hk=>h.2.2.2.2 k hk
  same:=λK i W K' i' W' k h h' hs=>(h'.2.2.2.1 k hs.1 hs.2).trans (h.2.2.2.1 k hs.1 hs.2).symm
  glob:=λK i W h=>hGX.step (λk hk hn=>h.2.2.2.1 k hk hn) h.2.2.1 λk hk he=>Classical.byContradiction λhx=>he.2 (.inr ⟨hk,hx⟩)}
 have ht0:F.T (λk=>w.heap.size<=k/\k<W2.heap.size) 0 W2:=⟨hj0 W2 bel,λk a b=>⟨a,b⟩,Nat.le_refl _,λ_ _ _=>rfl,λk hk=>hk.2⟩;have hXlt:∀k,X k->k<w.heap.size:=hX.1;have C:EE F u2 wv (aW x):=by
  refine⟨λi u hu K W v vs ht hv hvs=>?_,λK i W ht=>?_⟩
  ·have hv:v=u2:=by cases hv;rfl
   refine .inr ⟨l,hv.trans hyv,?_⟩;have hvs:=PN hvs;subst hvs;obtain⟨fn,tm,ag,bo,r1,r2⟩:=hjy K i W (wB u) ht.1 (by rw[List.getElem?_map,hu];rfl);refine⟨fn,tm,ag,bo,r1,r2.mono ?_⟩;rintro e W' ⟨rfl,q1,q2,q3⟩;have hsz:=ht.2.2.1;refine⟨rfl,K,⟨q1,ht.2.1,Nat.le_trans hsz q2,λk a b=>?_,λk hk=>Nat.lt_of_lt_of_le (ht.2.2.2.2 k hk) q2⟩,q2,λk hk=>⟨hk,q3 k (.inl hk)⟩⟩;refine(q3 k ?_).trans (ht.2.2.2.1 k a b);by_cases h:k<w.heap.size
   ·exact .inr ⟨h,b⟩
   ·exact .inl (ht.2.1 k (by omega) a)
  ·have hsz:=ht.2.2.1;have blk:∀b,w.heap.size<=b->b<W2.heap.size->¬F.X K W b/\b<W.heap.size/\W.heap[b]? =W2.heap[b]? :=λb h1 h2=>
    ⟨λh=>h.2.elim (.inl (ht.2.1 b h1 h2)),by omega,ht.2.2.2.1 b h2 λhx=>by have:=hXlt b hx;omega⟩
   have box:∀b u (d:DV) (e:TypeId),w.heap.size<=b/\b<W2.heap.size->W2.heap[b]? =some (.cells #[u] e (0,0))->u.oneCell'=true->RD W (F.X K W) d u->RD W (F.X K W) (.ro [d]) (.pointer (some ⟨b,0,none⟩)):=λb u d e hb hh h1 hd=>by
    obtain⟨z1,z2,z3⟩:=blk b hb.1 hb.2;refine .ro [d] b 0 [u] z1 rfl (by simpa using h1) z2 (λj v hj=>?_) λi c v hc hv=>?_
    ·match j,hj with
     |0,hj=>cases hj;simp[World.cell?,z3,hh]
    ·match i,hc,hv with
     |0,hc,hv=>cases hc;cases hv;exact hd
   have key:RD W (F.X K W) (.fn 77 [.ro [fitD],.ro [.val u2],.ro [.val wv]]) (.func (.func 77) #[] [p3,p2,p4].toArray):=by
    refine .fn _ _ [p3,p2,p4] rfl λi c v hc hv=>?_
    match i,hc,hv with
    |0,hc,hv=>
     cases hc;cases hv;rw[hp3];exact box b3 u3 fitD e3 n3 hh3 ho3 (hfit.step (λk hk hn=>ht.2.2.2.1 k hk hn) hsz λk hk he=>Classical.byContradiction λhx=>he.2 (.inr ⟨hk,hx⟩))
    |1,hc,hv=>
     cases hc;cases hv;rw[hp2];exact box b2 u2 _ e2 n2 hh2 ho2 (.val _ ho2)
    |2,hc,hv=>
     cases hc;cases hv;rw[hp4];exact box b4 wv (.val wv) e4 n4 hh4 ho4 (.val _ ho4)
   have e:(Value.func (.func 77) #[] [p3,p2,p4].toArray)=wv:=hwv.symm;rw[e]at key;exact key
 have hroot:=PM C x hw 0 (λj u hj=>by rw[Nat.zero_add];exact hj);obtain⟨m6,g6⟩:=s4.mem.rebox (b:=4) (fz:=true) (cs:=[.fn 77 [.bx 3 0,.bx 2 0,.bx 4 0]]) (cs':=[.d (.val wv)]) rfl rfl λi c c' v hc hc' hr=>by
  match i,hc,hc' with
  |0,hc,hc'=>
   cases hc;cases hc';have:v=wv:=by
    rw[hwv];cases hr with
    |fn _ _ vs hl hc=>
     match vs,hl with
     |[q3,q2,q4],_=>rw[hp3,hp2,hp4,tE (hc 0 _ _ rfl rfl) hb3 rfl,tE (hc 1 _ _ rfl rfl) hb2 rfl,tE (hc 2 _ _ rfl rfl) hb4 rfl]
   rw[this];exact .d _ _ (.val wv ho4)
 have hO:bR (aG [(2,aP.box true [.d (.val u2)]),(3,.box true [.d fitD]),(4,.box true [.fn 77 [.bx 3 0,.bx 2 0,.bx 4 0]])]) 4 (.box true [.d (.val wv)])=aG [(2,aP.box true [.d (.val u2)]),(3,.box true [.d fitD]),(4,.box true [.d (.val wv)])]:=by
  funext j;by_cases h2:j=2
  ·subst h2;rfl
  ·by_cases h3:j=3
   ·subst h3;rfl
   ·by_cases h4:j=4
    ·subst h4;rfl
    ·simp[bR,aG,dX,h2,h3,h4]
 rw[hO]at m6 g6;have s4b:gS 10 ⟨w,λ_=>none,λ_=>.absent,[],true⟩ X (aQ [(1,.d rd),(2,.bx 2 0),(3,.bx 3 0),(4,.bx 4 0)]) (aG [(2,aP.box true [.d (.val u2)]),(3,.box true [.d fitD]),(4,.box true [.d (.val wv)])]) β4 a4 W2:=
  ⟨g6.marks s4.defers,s4.size,m6.ext,m6.xold,m6.fresh,m6.inj,λt=>g6.R (s4.env t),m6.obj,m6.pin⟩
 have nomut2:∀id,(aG [(2,aP.box true [.d (.val u2)]),(3,.box true [.d fitD]),(4,.box true [.d (.val wv)])] id).mut=false:=xG rfl;have s5:=s4b.effect (X':=F.X (λk=>w.heap.size<=k/\k<W2.heap.size) W2) [2,3,4] (λid h=>by
  have:=kX id h;simpa using this) (s4b.nodefer rfl) (Nat.le_refl _) (λ_ _ _=>rfl) (λk hk he=>Classical.byContradiction λhx=>he.2 (.inr ⟨hk,hx⟩)) (λk he=>he.1) (F.glob _ _ _ ht0)
 refine wpIn_mono ((kE (F:=F) (pins:=[2,3,4]) (Q:=λe _ _ i'=>(match e with| .normal=>True|_=>False)/\i'=0+(aW x).length) hT hW [(2,.box true [.d (.val u2)]),(3,.box true [.d fitD]),(4,.box true [.d (.val wv)])] rfl (by rfl) (by simp) 2 rfl rfl rfl rfl (by decide)
  (rd:=.bool true) (r:=.bool true) (λ_ _=>.bool _) hroot ?_) (by kernel_rfl) ⟨W2,β4,_,[2,3,4],true⟩ _ β4 a4 W2 rfl rfl (λk ⟨id,_,h,_⟩=>by rw[nomut2 id]at h;cases h) ht0 s5) ?_
 ·simp[hrd,uE];rfl
 ·rintro e a' w' ⟨lx,env',H',i',w1,K',β',q1,q2,q3,q4,q5,q6,q7,q8,q9,q10⟩;subst q10;cases lx with
  |exit id=>exact q9.elim
  |ret=>exact q9.elim
  |normal=>
  cases e<;>simp only[eG]at q1;have bel2:=q8.ext.bel q4;have hg:=F.grow K' _ _ _ q5 bel2;exact⟨q8.nodefer q2,.tuple #[],by simp[results,Tryz.results75],⟨_,rfl⟩,_,by rw[List.length_map];have:=hg.1;rw[Nat.zero_add]at this;exact this⟩
end
section
attribute[local simp] hZ.cond Nd.d_eq nd_t nd_dr nd_td ndsD aO
def iC(l:List Nd):List aJ:=(l.filter λk=>decide (k.kind=7)).map Nd.text
def bP(x:Nd):List aJ:=iC x.kids
theorem EI{l:List Nd}{i:Nat}(hi:i<l.length):iC (l.take (i+1))=if l[i].kind=7 then iC (l.take i)++[l[i].text]else iC (l.take i):=by
 unfold iC;rw[List.take_succ_eq_append_getElem hi,List.filter_append];by_cases h:l[i].kind=7<;>simp[h]
theorem zC(l:List Nd):(iC l).length<=l.length:=by unfold iC;rw[List.length_map];exact List.length_filter_le _ _
theorem Dl(x:Nd)(hw:weighN x<=1000000000):Ok Tryz.prog 100 [x.d] ⟨.own 1 ((bP x).map .str),true⟩:=by
 refine bF Tryz.func100 rfl Tryz.ntmps100 Tryz.results100 λw0 X hp=>?_;have hwx:=weighN_eq x;have hkl:=weigh_len (l:=x.kids);refine aA ?_;simp;refine aA ?_;simp;refine aD ?_;refine aA ?_;simp;refine aL ?_;refine aS (ι:=Nat) (λi=>aQ [(3,.ow 3 0 (iC (x.kids.take i)).length),(7,.d (ndsD x.kids)),(8,.d (aH (x.kids.length:Nat))),(9,.d (aH (i:Nat)))]) (λi=>aG [(3,.row false 1 ((iC (x.kids.take i)).map .str))]) (λi=>i<=x.kids.length) (λi=>x.kids.length-i) 0 (aB hp [3,7,8,9] [(3,3)] (by simp[iC]) (by simp[iC])) (Nat.zero_le _) λi hi3=>?_;refine aA ?_;simp;refine aD ?_;refine aC ?_;simp;refine⟨λh3=>?_,λh3=>?_⟩
 ·refine aE ?_;simp;refine aD ?_;refine aL ?_;refine aD ?_;have hi:i<x.kids.length:=by omega
  obtain⟨k,hk⟩:∃k,x.kids[i]=k:=⟨_,rfl⟩;have hn:=EI hi;have hfl:=zC (x.kids.take i);rw[List.length_take]at hfl;rw[hk]at hn;refine aM ?_;simp[hi,hk];refine aA ?_;simp;refine aC ?_;simp;refine⟨λh5=>?_,λh5=>?_⟩
  ·simp only[if_pos h5]at hn;refine aM ?_;simp;refine⟨by omega,?_⟩;refine aM ?_;simp;refine⟨by omega,?_⟩;refine Ks.mk (i+1) (aB hp [3,7,8,9] [(20,3)] (by simp[hn]) (by simp[hn])) ?_ ?_
   ·omega
   ·omega
  ·simp only[if_neg h5]at hn;refine aE ?_;simp;refine aM ?_;simp;refine⟨by omega,?_⟩;refine Ks.mk (i+1) (aB hp [3,7,8,9] [(3,3)] (by simp[hn]) (by simp[hn])) ?_ ?_
   ·omega
   ·omega
 ·refine bT ?_;simp;refine aA ?_;simp;refine aF ?_;have he:i=x.kids.length:=by omega
  subst he;rw[List.take_length];simp[bP]
def lF(ts:List Nd):List DV:=ts.map λt=>.str t.text
def lQ(n:Nat):List DV:=(List.range n).map λ(i:Nat)=>aH (i:Int)
def uO(ts:List Nd):DV:=.agg [ndsD ts,.mp (lF ts) (lQ ts.length)]
def lB(ts:List Nd)(name:aJ):Option Nat:=ts.findIdx? λt=>decide (name=t.text)
theorem oU(name:aJ):∀(ts:List Nd) (i:Nat),fO (.str name) (lF ts) i=some ((lB ts name).map (·+i))
 |[],i=>rfl
 |x::r,i=>by
  have e:gT (.str name) (.str x.text)=some (decide (name=x.text)):=by
   simp only[gT,Fr,Option.some.injEq];by_cases h:name=x.text<;>simp[h]
  unfold lF lB;rw[List.map_cons,fO,e,List.findIdx?_cons];by_cases h:name=x.text
  ·simp[h]
  ·simp only[h,decide_false,Bool.false_eq_true,if_false];have:=oU name r (i+1);unfold lF lB at this;rw[this];cases r.findIdx? (λt=>decide (name=t.text))with
   |none=>rfl
   |some j=>simp;omega
theorem rP{ts:List Nd}{name:aJ}{j:Nat}(h:lB ts name=some j):j<ts.length:=by
 unfold lB at h;exact(List.findIdx?_eq_some_iff_getElem.1 h).1
theorem KM{n j:Nat}(h:j<n):(lQ n)[j]?.getD default=aH (j:Nat):=by simp[lQ,h]
def fT(ts:List Nd)(u:bZ):Int:=match lB ts u.name with
 |none=>6
 |some j=>if(ts.getD j default).kind≠u.kind then 12 else if u.kind=1/\u.field∉bP (ts.getD j default)then -1 else 0
def GF(e:Int):Int:=if e=12 then 1 else if e= -1 then 2 else 0
def gI(out e:Int):Int:=if out=0\/GF e<GF out then e else out
def xT(ts:List Nd)(us:List bZ):Int:=us.foldl (λout u=>if fT ts u=0 then out else gI out (fT ts u)) 0
def Ck(ts:List Nd)(x:Nd):Int:=if xT ts (aW x)= -1 then 6 else xT ts (aW x)
def lG(e:Int):Prop:=e=0\/e=6\/e=12\/e= -1
theorem xU(ts:List Nd)(u:bZ):lG (fT ts u):=by
 unfold fT lG;split
 ·simp
 ·split
  ·simp
  ·split<;>simp
theorem ME(ts:List Nd)(us:List bZ):lG (xT ts us):=by
 have key:∀(us:List bZ) (o:Int),lG o->lG (us.foldl (λout u=>if fT ts u=0 then out else gI out (fT ts u)) o):=λus=>by
  induction us with
  |nil=>exact λo h=>h
  |cons u r ih=>
   intro o h;refine ih _ ?_;show lG (if fT ts u=0 then o else gI o (fT ts u));split
   ·exact h
   ·unfold gI;split
    ·exact xU ts u
    ·exact h
 exact key us 0 (.inl rfl)
def wD:DV:=.mp [aH 6,aH 12,aH (-1)] [aH 0,aH 1,aH 2]
theorem Dm{H:Nat->aP}{e:Int}(h:lG e):cB T H 152 (.d wD) (.d (aH e)) false=⟨.d (aH (GF e)),True,[]⟩:=by
 rcases h with rfl|rfl|rfl|rfl<;>simp[cB,wD,fO,gT,Fr,GF]
theorem Bt(out e:Int)(ho:lG out)(he:lG e):jA Tryz.prog 103 [.d (aH e),.d wD,.bx 0 0] [(0,.box false [.d (aH out)])] [(0,.box false [.d (aH (gI out e))])] (.tup []):=by
 refine pU Tryz.func103 rfl Tryz.ntmps103 Tryz.results103 λw0 X hp=>?_;refine aA ?_;simp[Dm ho,Dm he];refine aC ?_;simp;refine⟨λh0=>?_,λh0 h1=>?_⟩
 ·have hwr:gI out e=e:=by unfold gI;rw[if_pos h0]
  refine aM ?_;simp;simp[hwr];exact aB hp [] [(0,0)]
 ·have hwr:gI out e=out:=by unfold gI;rw[if_neg (by omega)]
  refine aE ?_;simp;simp[hwr];exact aB hp [] [(0,0)]
def Ri(ts:List Nd)(name:aJ):Int:=((lB ts name).getD 0:Nat)
theorem EJ{H:Nat->aP}{ts:List Nd}{n:Nat}(hn:n=ts.length){name:aJ}:cB T H 52 (.d (.mp (lF ts) (lQ n))) (.d (.str name)) true=⟨.tup [.d (aH (Ri ts name)),.d (.bool (lB ts name).isSome)],True,[]⟩:=by
 subst hn;unfold Ri;cases h:lB ts name with
 |none=>simp[cB,oU,h]
 |some j=>
  have:=KM (rP h);simp[cB,oU,h,this]
def nZ(x:Nd)(i:Nat):bZ:=(aW x).getD i ⟨0,0,[],[]⟩
theorem tF{x:Nd}{i:Nat}{u:bZ}(h:(aW x)[i]? =some u):nZ x i=u:=by unfold nZ;rw[List.getD_eq_getElem?_getD,h];rfl
end
end Go.Eng
namespace Go.Proofs
open Go.Shelf
def Tryz.sortStr_ren:Go.Shelf.Ren:=⟨λ|6=>35|8=>69|9=>68|19=>115|20=>116|21=>106|22=>107|23=>108|24=>109|25=>110|26=>111|27=>112|28=>113|29=>114|36=>149|31=>150|32=>151|37=>152|38=>153|39=>71|41=>176|n=>n,λ|27=>32|29=>9|3=>3|32=>107|26=>32|0=>0|44=>163|46=>165|4=>4|36=>156|35=>155|41=>88|5=>5|9=>9|53=>178|57=>182|63=>192|64=>193|n=>n,λ|n=>n⟩
theorem Tryz.sortStr:Go.Proofs.SlLaysM.n6 Tryz.prog Tryz.sortStr_ren:={
 mixed:=by kernel_rfl,
 f6:=⟨Tryz.f35.name,by decide,Tryz.func35.trans (congrArg some (by kernel_rfl))⟩,
 f8:=Tryz.func69.trans (congrArg some (by kernel_rfl)),
 f9:=⟨Tryz.f68.name,by decide,Tryz.func68.trans (congrArg some (by kernel_rfl))⟩,
 f19:=Tryz.func115.trans (congrArg some (by kernel_rfl)),
 f20:=Tryz.func116.trans (congrArg some (by kernel_rfl)),
 f21:=⟨Tryz.f106.name,by decide,Tryz.func106.trans (congrArg some (by kernel_rfl))⟩,
 f22:=⟨Tryz.f107.name,by decide,Tryz.func107.trans (congrArg some (by kernel_rfl))⟩,
 f23:=⟨Tryz.f108.name,by decide,Tryz.func108.trans (congrArg some (by kernel_rfl))⟩,
 f24:=⟨Tryz.f109.name,by decide,Tryz.func109.trans (congrArg some (by kernel_rfl))⟩,
 f25:=⟨Tryz.f110.name,by decide,Tryz.func110.trans (congrArg some (by kernel_rfl))⟩,
 f26:=⟨Tryz.f111.name,by decide,Tryz.func111.trans (congrArg some (by kernel_rfl))⟩,
 f27:=⟨Tryz.f112.name,by decide,Tryz.func112.trans (congrArg some (by kernel_rfl))⟩,
 f28:=⟨Tryz.f113.name,by decide,Tryz.func113.trans (congrArg some (by kernel_rfl))⟩,
 f29:=⟨Tryz.f114.name,by decide,Tryz.func114.trans (congrArg some (by kernel_rfl))⟩,
 f31:=Tryz.func150.trans (congrArg some (by kernel_rfl)),
 f32:=Tryz.func151.trans (congrArg some (by kernel_rfl)),
 f36:=⟨Tryz.f149.name,by decide,Tryz.func149.trans (congrArg some (by kernel_rfl))⟩,
 f37:=⟨Tryz.f152.name,by decide,Tryz.func152.trans (congrArg some (by kernel_rfl))⟩,
 f38:=⟨Tryz.f153.name,by decide,Tryz.func153.trans (congrArg some (by kernel_rfl))⟩,
 f39:=⟨Tryz.f71.name,by decide,Tryz.func71.trans (congrArg some (by kernel_rfl))⟩,
 f41:=⟨Tryz.f176.name,by decide,Tryz.func176.trans (congrArg some (by kernel_rfl))⟩,
 t0:=Tryz.underlying0,
 a0:=Tryz.isAgg0,
 z0:=Tryz.sizeOf0,
 v0:=Tryz.zeroValue0,
 t3:=Tryz.underlying3,
 a3:=Tryz.isAgg3,
 z3:=Tryz.sizeOf3,
 v3:=Tryz.zeroValue3,
 t4:=Tryz.underlying4,
 a4:=Tryz.isAgg4,
 z4:=Tryz.sizeOf4,
 v4:=Tryz.zeroValue4,
 t5:=Tryz.underlying5,
 a5:=Tryz.isAgg5,
 z5:=Tryz.sizeOf5,
 v5:=Tryz.zeroValue5,
 t9:=Tryz.underlying9,
 a9:=Tryz.isAgg9,
 z9:=Tryz.sizeOf9,
 v9:=Tryz.zeroValue9,
 t26:=Tryz.underlying32,
 a26:=Tryz.isAgg32,
 z26:=Tryz.sizeOf32,
 v26:=Tryz.zeroValue32,
 t27:=Tryz.underlying32,
 a27:=Tryz.isAgg32,
 z27:=Tryz.sizeOf32,
 v27:=Tryz.zeroValue32,
 t29:=Tryz.underlying9,
 a29:=Tryz.isAgg9,
 z29:=Tryz.sizeOf9,
 v29:=Tryz.zeroValue9,
 t32:=Tryz.underlying107,
 a32:=Tryz.isAgg107,
 z32:=Tryz.sizeOf107,
 v32:=Tryz.zeroValue107,
 t35:=Tryz.underlying155,
 a35:=Tryz.isAgg155,
 z35:=Tryz.sizeOf155,
 v35:=Tryz.zeroValue155,
 t36:=Tryz.underlying156,
 a36:=Tryz.isAgg156,
 z36:=Tryz.sizeOf156,
 v36:=Tryz.zeroValue156,
 t41:=Tryz.underlying88,
 a41:=Tryz.isAgg88,
 z41:=Tryz.sizeOf88,
 v41:=Tryz.zeroValue88,
 t44:=Tryz.underlying163,
 a44:=Tryz.isAgg163,
 z44:=Tryz.sizeOf163,
 v44:=Tryz.zeroValue163,
 t46:=Tryz.underlying165,
 a46:=Tryz.isAgg165,
 z46:=Tryz.sizeOf165,
 v46:=Tryz.zeroValue165,
 t53:=Tryz.underlying178,
 a53:=Tryz.isAgg178,
 z53:=Tryz.sizeOf178,
 v53:=Tryz.zeroValue178,
 t57:=Tryz.underlying182,
 a57:=Tryz.isAgg182,
 z57:=Tryz.sizeOf182,
 v57:=Tryz.zeroValue182,
 t63:=Tryz.underlying192,
 a63:=Tryz.isAgg192,
 z63:=Tryz.sizeOf192,
 v63:=Tryz.zeroValue192,
 t64:=Tryz.underlying193,
 a64:=Tryz.isAgg193,
 z64:=Tryz.sizeOf193,
 v64:=Tryz.zeroValue193}
end Go.Proofs
namespace Go.Eng
open Go.Proofs Go.Sort Go.Shelf Go.RowKit
def pW(x:aJ):Value:=.string ⟨x.toArray⟩
def aJ.enc(x:aJ):List Value:=[pW x]
theorem mX:vP 1 DV.str aJ.enc where
 pos:=by decide
 len:=λ_=>rfl
 lenD:=λ_=>rfl
 one:=λx v hv=>by simp[aJ.enc]at hv;subst hv;rfl
 cell:=λx i c v hc hv w E u=>by
  match i,hc,hv with
  |0,hc,hv=>simp[aJ.enc,aI]at hc hv;subst hc;subst hv;exact⟨λh=>by cases h;rfl,λh=>h▸ .str _⟩
def cX(l:List aJ):List aJ:=l.mergeSort λx y=>decide (x<=y)
theorem gO(l:List aJ):(cX l).length=l.length:=List.length_mergeSort _
theorem EK{cur:Array Value}{s:List aJ}(h:s.length<=cur.size):putCells encStr 0 s.toArray cur=(cO 0 cur.toList (s.flatMap aJ.enc)).toArray:=by
 have hsf:(s.flatMap aJ.enc).length=s.length:=by have:=mX.flat_len s;simpa using this
 apply Array.ext_getElem?;intro i;rw[show(cO 0 cur.toList (s.flatMap aJ.enc)).toArray[i]? =(cO 0 cur.toList (s.flatMap aJ.enc))[i]? from by simp,eX (by rw[Nat.zero_add,hsf];simpa using h)];simp only[putCells,Array.getElem?_mapIdx,Nat.not_lt_zero,if_false,Nat.zero_add,List.size_toArray,hsf,Nat.sub_zero,Nat.zero_le,true_and];by_cases hi:i<s.length
 ·have hic:i<cur.size:=by omega
  have hm:s.flatMap aJ.enc=s.map pW:=by
   clear h hsf hi;induction s with
   |nil=>rfl
   |cons x t ih=>simp[aJ.enc,ih]
  simp only[hi,if_true,Array.getElem?_eq_getElem hic,Option.map_some];rw[hm];simp[hi,getElem!_def,encStr,pW]
 ·simp only[hi,if_false];rw[Array.getElem?_toList];cases cur[i]? <;>rfl
set_option maxRecDepth 100000 in
theorem uP(l:List aJ)(hl:l.length<=8000000000000):jA Tryz.prog 35 [.ow 0 0 l.length] [(0,.row false 1 (l.map .str))] [(0,.row false 1 ((cX l).map .str))] (.tup []):=by
 refine⟨⟨_,Tryz.func35,by kernel_rfl,by rfl⟩,λw X β vs m hvl hr=>?_⟩;have hH:aG [(0,aP.row false 1 (l.map DV.str))] 0=.row false 1 (l.map .str):=by simp[aG,dX]
 have hfin:∀o,aG [(0,o)]=bR (aG [(0,aP.row false 1 (l.map DV.str))]) 0 o:=λo=>by
  funext j;simp only[aG,dX,bR];split<;>rfl
 generalize hHd:aG [(0,aP.row false 1 (l.map DV.str))]=H at*
 match vs,hvl with
 |[v0],_=>
 have r0:=hr 0 _ _ rfl rfl;rcases vJ m hH r0 with⟨b,c,cur,e,rfl,hb,hkn,hn,hc,hblk,hroom,hcap⟩|⟨p,rfl,hz,_⟩
 ·have hob:=m.obj 0;simp only[cU,hH]at hob;obtain⟨hpos,hall,hob⟩:=hob;rcases hob with⟨hnone,_⟩|⟨b',e',cur',hb',hblk2,hlen',hpo⟩
  ·rw[hnone]at hb;cases hb
  rw[hb]at hb';injection hb' with hb';subst hb'
  rw[hblk]at hblk2;injection hblk2 with hblk2;injection hblk2 with p1 p2;subst p1;subst p2
  rw[List.length_map]at hlen';have htk:=mX.holds hlen' (λi c v hc hv=>(hpo i c v hc hv).2);have hfl:(l.flatMap aJ.enc).length=l.length:=by have:=mX.flat_len l;simpa using this
  have hmap:∀l:List aJ,l.flatMap aJ.enc=l.map pW:=λl=>by
   induction l with
   |nil=>rfl
   |cons x t ih=>simp[aJ.enc,ih]
  have hlb:=(Array.getElem?_eq_some_iff.1 hblk).1;have hhold:Holds encStr w b 0 l.toArray:=by
   intro j hj;simp only[List.size_toArray]at hj;have hjc:j<cur.size:=by omega
   refine⟨?_,by simp[World.frozen?,hblk]⟩;rw[cell_of_row w b _ cur e (0,0) hblk,Nat.zero_add,Array.getElem?_eq_getElem hjc];have h1:(cur.toList.take (l.length*1))[j]? =some cur[j]:=by rw[List.getElem?_take,if_pos (by omega)];simp[hjc]
   rw[htk,hmap]at h1;simp[hj]at h1;rw[<-h1];simp[encStr,pW,hj]
  have hcon:=AnyM.slices_Sort_string Tryz.sortStr b 0 c l w hhold hlb (by omega);rw[show #[Value.slice (some ⟨b,0,none⟩) l.length c]=[Value.slice (some ⟨b,0*1,none⟩) l.length c].toArray from rfl]at hcon;refine hcon.mono ?_;rintro ee w' ⟨rfl,n,os,rfl⟩;have hsl:=gO l;change ∃v β',_/\cW _ X _ β' (grow (putRow encStr (Sort.ahead w n) b 0 (cX l).toArray) os)/\R (grow (putRow encStr (Sort.ahead w n) b 0 (cX l).toArray) os) _ _ _ _ v;generalize cX l=s at*;have hsf:(s.flatMap aJ.enc).length=s.length:=by have:=mX.flat_len s;simpa using this
  have hput:(putRow encStr (Sort.ahead w n) b 0 s.toArray).heap[b]? =some (.cells (cO 0 cur.toList (s.flatMap aJ.enc)).toArray e (0,0)):=by
   rw[<-EK (by omega)];unfold putRow mapBlock;simp only[heap_ahead,Array.getElem?_modify,if_pos,hblk,Option.map_some];rfl
  have hother:∀j,j≠b->(putRow encStr (Sort.ahead w n) b 0 s.toArray).heap[j]? =w.heap[j]? :=λj hj=>by
   unfold putRow mapBlock;simp only[heap_ahead,Array.getElem?_modify,Ne.symm hj,if_false]
  have hsize:(putRow encStr (Sort.ahead w n) b 0 s.toArray).heap.size=w.heap.size:=by simp
  have hcl:cur.toList.length=cur.size:=by simp
  have hpl:(cO 0 cur.toList (s.flatMap aJ.enc)).toArray.size=cur.size:=by rw[List.size_toArray,eN (by rw[Nat.zero_add,hsf,hcl];omega)];exact hcl
  have hstk:(cO 0 cur.toList (s.flatMap aJ.enc)).toArray.toList.take (s.length*1)=s.flatMap aJ.enc:=by
   unfold cO;simp[hsf]
  obtain⟨m1,g1⟩:=m.rewriteG (id:=0) (b:=b) (o':=.row false 1 (s.map .str)) (w':=putRow encStr (Sort.ahead w n) b 0 s.toArray) (by rw[hH];rfl) hb rfl rfl rfl (Nat.le_add_right _ _) hsize hother (by
   unfold bC;rw[hH,aK];refine .inr ⟨⟨false,s.map .str,rfl,by simp[hsl]⟩,rfl,λb' c' t hbb hblk'=>?_⟩;rw[hb]at hbb;injection hbb with hbb;subst hbb
   rw[hblk]at hblk';injection hblk' with hblk';injection hblk' with q1 q2;subst q1;subst q2
   exact⟨_,e,hput,hpl⟩) (λ_ _=>by
   unfold cU;rw[aK];obtain⟨z1,z2⟩:=mX.reads hstk;exact⟨hpos,mX.all s,.inr ⟨b,e,_,hb,hput,by simpa using z1,z2 _ _⟩⟩)
  obtain⟨m2,g2⟩:=m1.grow (w':=grow (putRow encStr (Sort.ahead w n) b 0 s.toArray) os) ⟨rfl,rfl,rfl,by simp,λj hj=>heap_grow_old _ _ hj,Nat.le_refl _⟩;refine⟨_,β,rfl,?_,.tup [] [] rfl (by simp)⟩;rw[hfin];exact m2
 ·have hl0:l=[]:=List.eq_nil_of_length_eq_zero hz;subst hl0;refine(AnyM.slices_Sort_string_none Tryz.sortStr p 0 w).mono ?_;rintro e w' ⟨rfl,rfl⟩;refine⟨_,β,rfl,?_,.tup [] [] rfl (by simp)⟩;rw[hfin,show cX []=[] from by simp[cX],AN hH];exact m
theorem lR(l:List aJ):(cX l).Pairwise λx y=>x<=y:=by
 have:=List.pairwise_mergeSort (le:=λx y:aJ=>decide (x<=y)) (λa b c h1 h2=>by simp at*;exact List.le_trans h1 h2) (λa b=>by simp;exact List.le_total a b) l;exact this.imp λh=>by simpa using h
theorem Jf{p s:List aJ}(h:p.Perm s):cX p=cX s:=
 List.Perm.eq_of_pairwise (le:=λx y:aJ=>x<=y) (λa b _ _ h1 h2=>List.le_antisymm h1 h2) (lR p) (lR s) (((List.mergeSort_perm p _).trans h).trans (List.mergeSort_perm s _).symm)
section
open Go.RowKit Go.Maps Go.Sort Go.Shelf Go.Proofs
open Go.ChangeMaps (setBlock)
open Go.ChangeMaps (setBlock)
section
variable{P:Program} {F:Fence} {n:Nat} (w:World) {ops:Array Oper} {rest:List Oper} {o:Oper} {a:Act} {Q:Exit->Act->World->Prop}
structure Jg(es:Array MapEntry)(vs:List MapEntry)(seen:Array Nat):Prop where
 mem:∀e∈vs,e∈es.toList
 nd:(vs.map (·.born)).Nodup
 seen:seen.toList=vs.map (·.born)
theorem Bu{es:Array MapEntry}{clock:Nat}(h:eR es clock):(es.toList.map (·.born)).Nodup:=by
 rw[List.Nodup,List.pairwise_map,List.pairwise_iff_getElem];intro i j hi hj hij e;have:=h.2 i j _ _ (by simp) (by simp) e;omega
theorem pX{α β:Type}{f:α->β}:∀{l:List α},(l.map f).Nodup->l.Nodup
 |[],_=>by simp
 |a::l,h=>by
  simp only[List.map_cons,List.nodup_cons]at h|-;exact⟨λhm=>h.1 (List.mem_map.2 ⟨a,hm,rfl⟩),pX h.2⟩
theorem Jg.perm{es:Array MapEntry}{clock:Nat}{vs:List MapEntry}{seen:Array Nat}(h:Jg es vs seen)(hb:eR es clock)(hl:(leftOf es seen).size=0):vs.Perm es.toList:=by
 refine(List.perm_ext_iff_of_nodup (pX h.nd) (pX (Bu hb))).2 λe=>⟨h.mem e,λhe=>?_⟩;have hs:e.born∈seen:=by
  have:leftOf es seen= #[]:=Array.eq_empty_of_size_eq_zero hl;unfold leftOf at this;rw[Array.filter_eq_empty_iff]at this;have:=this e (by simpa using he);simpa using this
 have hs':e.born∈vs.map (·.born):=by rw[<-h.seen];simpa using hs
 obtain⟨e',he',hee⟩:=List.mem_map.1 hs';obtain⟨i,hi,hie⟩:=List.getElem_of_mem he;obtain⟨j,hj,hje⟩:=List.getElem_of_mem (h.mem e' he');have:=hb.2 j i e' e (by rw[<-hje];simp) (by rw[<-hie];simp) hee;subst this;rw[<-hie,hje];exact he'
theorem Jg.step{es:Array MapEntry}{vs:List MapEntry}{seen:Array Nat}(h:Jg es vs seen){e:MapEntry}(he:e∈(leftOf es seen).toList):Jg es (vs++[e]) (seen.push e.born):=by
 unfold leftOf at he;simp only[Array.toList_filter,List.mem_filter,Bool.not_eq_true']at he;refine⟨λx hx=>?_,?_,by simp[h.seen]⟩
 ·rcases List.mem_append.1 hx with hx|hx
  ·exact h.mem x hx
  ·simp at hx;subst hx;exact he.1
 ·rw[List.map_append,List.nodup_append];refine⟨h.nd,by simp,λx hx y hy e'=>?_⟩;simp at hy;subst hy;subst e';rw[<-h.seen]at hx;have:=he.2;simp at this;exact this (by simpa using hx)
theorem Bv:∀{l m:List Nat},l.Nodup->(∀x∈l,x∈m)->l.length<=m.length
 |[],_,_,_=>Nat.zero_le _
 |a::l,m,h,hs=>by
  simp only[List.nodup_cons]at h;have ha:a∈m:=hs a (List.mem_cons_self ..);have:=Bv h.2 (m:=m.erase a) (λx hx=>(List.mem_erase_of_ne (show x≠a from λe=>by subst e;exact h.1 hx)).2 (hs x (List.mem_cons_of_mem _ hx)));rw[List.length_erase_of_mem ha]at this;have:=List.length_pos_of_mem ha;simp only[List.length_cons];omega
theorem Jg.size{es:Array MapEntry}{clock:Nat}{vs:List MapEntry}{seen:Array Nat}(h:Jg es vs seen)(hb:eR es clock):seen.size<=es.size:=by
 have h1:seen.size=vs.length:=by have:=congrArg List.length h.seen;simpa using this
 rw[h1];have:=Bv h.nd (m:=es.toList.map (·.born)) (λx hx=>by obtain⟨e,he,rfl⟩:=List.mem_map.1 hx;exact List.mem_map.2 ⟨e,h.mem e he,rfl⟩);simpa using this
theorem Cl{w:World}{r:Nat}{o o':Obj}(h:w.heap[r]? =some o):(setBlock w r o').heap[r]? =some o'/\∀k,k≠r->(setBlock w r o').heap[k]? =w.heap[k]? :=by
 have hlt:=(Array.getElem?_eq_some_iff.1 h).1;refine⟨by simp[setBlock,hlt],λk hk=>?_⟩;simp only[setBlock];rw[Array.getElem?_setIfInBounds_ne (λe=>hk e.symm)]
theorem uQ(hg:o.guard=none)(m:Operand)(t:TypeId)(hop:o.op=Op.range t m)(k e:TypeId)(ht:P.underlying t=some (.map k e)){b clock:Nat}{es:Array MapEntry}(hm:a.eval m=.map (some b))(hb:w.heap[b]? =some (.map es clock))
 (hK:wpListIn F n P ops Q rest (a.put o.dst (.pointer (some ⟨w.heap.size,0,none⟩))) (w.alloc (.mapIter (some b) clock #[] clock))):wpListIn F n P ops Q (o::rest) a w:=by
 refine wpListIn_plain hg λK' hK'=>?_;have hrun:(Instr.range t (.map (some b))).run P w=.ok (.pointer (some ⟨w.heap.size,0,none⟩)) (w.alloc (.mapIter (some b) clock #[] clock)):=by
  simp[Instr.range,run_underlying ht,getObj,Sem.run,hb,Result.andThen,run_newObj_alloc]
 unfold Oper.wpIn;refine⟨by simp[Oper.about,hop],?_⟩;rw[Oper.semAt_plain F _ _ (by rw[hop];intro c hc';cases hc')];simp[execOp,hop,hm,hrun,Result.andThen];exact hK' _ _ hK
theorem wE(hg:o.guard=none)(it:Operand)(hop:o.op=Op.next it false){b r clock since c0:Nat}{es:Array MapEntry}{seen:Array Nat}{vs:List MapEntry}(hne:r≠b)(hit:a.eval it=.pointer (some ⟨r,0,none⟩))
 (hr:w.heap[r]? =some (.mapIter (some b) since seen c0))(hb:w.heap[b]? =some (.map es clock))(hborn:eR es clock)(hsc:since<=c0)(hcs:clock<=since)(hC:Jg es vs seen)
 (hDone:vs.Perm es.toList->wpListIn F n P ops Q rest (a.put o.dst (.tuple #[.bool false])) w)
 (hMore:∀(e:MapEntry) (w':World),e∈es.toList->Jg es (vs++[e]) (seen.push e.born)->w'.heap[r]? =some (.mapIter (some b) since (seen.push e.born) clock)->w.grownBy w' (some r)->w.drawn<=w'.drawn->
   (Instr.entry (.pointer (some ⟨r,0,none⟩))).run P w'=.ok (.tuple #[e.key,e.val]) w'->wpListIn F n P ops Q rest (a.put o.dst (.tuple #[.bool true,e.key,e.val])) w'):
 wpListIn F n P ops Q (o::rest) a w:=by
 refine wpListIn_plain hg λK' hK'=>?_;unfold Oper.wpIn;refine⟨by simp[Oper.about,hop],?_⟩;rw[Oper.semAt_plain F _ _ (by rw[hop];intro c hc';cases hc')];have hold:∀x∈es.toList,x.born<since:=λx hx=>by
  obtain⟨i,hi,hix⟩:=List.getElem_of_mem hx;have:=hborn.1 i x (by rw[<-hix];simp);omega
 rcases run_next_at (P:=P) w o.type r b since c0 seen es clock hr hb hold hsc with⟨h0,hrun⟩|⟨e,he,w1,hal,hrun⟩
 ·simp[execOp,hop,hit,hrun,Result.andThen];exact hK' _ _ (hDone (hC.perm hborn h0))
 ·have hr1:w1.heap[r]? =some (.mapIter (some b) since seen c0):=by rcases hal with rfl|rfl<;>exact hr
  have hb1:w1.heap[b]? =some (.map es clock):=by rcases hal with rfl|rfl<;>exact hb
  have hset:=Cl (o':=.mapIter (some b) since (seen.push e.born) clock) hr1;have hb':(setBlock w1 r (.mapIter (some b) since (seen.push e.born) clock)).heap[b]? =some (.map es clock):=(hset.2 b (λe1=>hne e1.symm)).trans hb1;have hem:e∈es.toList:=(mem_left he).1;simp[execOp,hop,hit,hrun,Result.andThen];refine hK' _ _ (hMore e _ hem (hC.step he) hset.1 ?_ ?_ (run_entry_at _ r b since seen es clock e hset.1 hb' hem (Bu hborn)))
  ·rcases hal with rfl|rfl<;>exact⟨rfl,rfl,rfl,by simp[setBlock],λi _ hi=>hset.2 i (λe1=>hi (by rw[e1]))⟩
  ·rcases hal with rfl|rfl
   ·exact Nat.le_refl _
   ·exact Nat.le_succ _
end
def Jh(n r:Nat)(W:World):Nat:=n-(match W.heap[r]? with|some (.mapIter _ _ seen _)=>seen.size|_=>0)
theorem Dn{n r:Nat}{W:World}{m:Option Nat}{a c:Nat}{seen:Array Nat}(h:W.heap[r]? =some (.mapIter m a seen c)):Jh n r W=n-seen.size:=by simp[Jh,h]
set_option maxRecDepth 100000 in
theorem Cm(F:Fence)(n:Nat)(hf:F.fn 82)(hro:F.round=none)(hn:1<=n){Bm ob b clock:Nat}{es:Array MapEntry}(W:World)(hm':W.cell? ⟨Bm,ob,none⟩=some (.map (some b)))
 (hb':W.heap[b]? =some (.map es clock))(hborn:eR es clock)(key:MapEntry->aJ)(hkey:∀e∈es.toList,e.key=pW (key e))(l:Nat)(J:List aJ->World->Prop)(hJ:Tz W.heap.size J)
 (hY:∀pre x W1,J pre W1->pre.length<es.size->YieldAt F (n-1) Tryz.prog l #[pW x] W1 λe W'=>e=.returned (.bool true)/\J (pre++[x]) W'/\KeepsWalks W1 W')(h0:J [] W):
 CallsIn F n Tryz.prog 82 #[.func (.yield l) #[] #[],.pointer (some ⟨Bm,ob,none⟩)] W λe W'=>(∃v,e=.returned v)/\∃ss:List aJ,ss.Perm (es.toList.map key)/\J ss W':=by
 have hbW:b<W.heap.size:=(Array.getElem?_eq_some_iff.1 hb').1;refine callsIn_of_wp Tryz.func82 rfl hf ?_ hro;simp only[Tryz.ntmps82,List.size_toArray,List.length_cons,List.length_nil,Nat.reduceAdd,Nat.reduceSub,Array.replicate_succ,Array.replicate_zero,List.push_toArray,List.append_toArray,List.nil_append,List.cons_append]
 gi_wp2_with (first
  |(gi_at_range;refine uQ _ rfl _ _ rfl _ _ Tryz.underlying73 rfl hb' ?_)
  |gi_in)
 have hg0:W.grownBy (W.alloc (.mapIter (some b) clock #[] clock)) none:=World.grownBy_alloc W _ none;have hr0:(W.alloc (.mapIter (some b) clock #[] clock)).heap[W.heap.size]? =some (.mapIter (some b) clock #[] clock):=heap_alloc_new W _;have hb0:(W.alloc (.mapIter (some b) clock #[] clock)).heap[b]? =some (.map es clock):=(hg0.block b hbW (by simp)).trans hb';have hJ0:=hJ [] W _ none h0 hg0 (Nat.le_refl _) (λr e=>by cases e);generalize W.alloc (.mapIter (some b) clock #[] clock)=w0 at*;try go_frame
 gi_loopw [3] (λ_ wr=>∃(vs:List MapEntry) (seen:Array Nat) (c0:Nat),wr.heap[W.heap.size]? =some (.mapIter (some b) clock seen c0)/\wr.heap[b]? =some (.map es clock)/\clock<=c0/\Jg es vs seen/\J (vs.map key) wr)
  (λ_ wr=>Jh es.size W.heap.size wr)
 case atStart=>
  exact⟨[],#[],clock,hr0,hb0,Nat.le_refl _,⟨by simp,by simp,by simp⟩,hJ0⟩
 case round=>
  obtain⟨vs,seen,c0,hr,hbr,hcc,hC,hJs⟩:=hrel
  gi_wp2_with (first
   |(gi_at_next;refine wE _ rfl _ rfl (Nat.ne_of_gt hbW) rfl hr hbr hborn hcc (Nat.le_refl _) hC ?_ ?_)
   |gi_in)
  ·intro hp
   gi_wp2
   go_end0
   exact⟨⟨_,rfl⟩,vs.map key,hp.map key,hJs⟩
  ·intro e w2 he hC2 hr2 hg2 hd2 hen;have hJ2:J (vs.map key) w2:=hJ _ wr w2 (some W.heap.size) hJs hg2 hd2 (λr e=>by cases e;exact⟨Nat.le_refl _,_,hr,rfl⟩);have hb2:w2.heap[b]? =some (.map es clock):=(hg2.block b (Array.getElem?_eq_some_iff.1 hbr).1 (λe=>by injection e with e;omega)).trans hbr;have hsz:=hC2.size hborn;have hvs:seen.size=vs.length:=by have:=congrArg List.length hC.seen;simpa using this
   obtain⟨fn,tmps,assign,body,hy,hR⟩:=hY (vs.map key) (key e) _ hJ2 (by simp at hsz|-;omega);rw[hkey e (by simpa using he)]at hen|-;unfold pW at hen hy|-
   gi_wp2
   refine hR.mono ?_;rintro e' W3 ⟨rfl,hJ3,hk3⟩
   gi_wp2
   have hr4:=hk3.same _ _ hr2 rfl;have hb4:=hk3.same _ _ hb2 rfl
   go_roundw
   case rel=>exact⟨vs++[e],seen.push e.born,clock,hr4,hb4,Nat.le_refl _,hC2,by simpa using hJ3⟩
   case measure=>rw[Dn hr4,Dn hr];simp at hsz|-;omega
def UC(b0:Option Nat)(W0:World)(l:List aJ)(ss:List aJ)(W:World):Prop:=
 ∃v gb,W.heap[W0.heap.size]? =some (.cells #[v] 32 (0,0))/\qL 1 b0 W0.heap.size W v (l.length+ss.length) ((l++ss).flatMap aJ.enc) gb/\gb≠some W0.heap.size/\CO b0 W0 W/\zA (l.length*1) b0 W0 W
theorem PO(b0:Option Nat)(W0:World)(l:List aJ)(hb0:∀b,b0=some b->b<W0.heap.size):Tz (W0.heap.size+1) (UC b0 W0 l):=by
 rintro ss W W' row ⟨v,gb,h1,h2,h3,h4,h5⟩ hg hd hr;have hrow:∀{k:Nat} {cur:Array Value} {e:TypeId},W.heap[k]? =some (.cells cur e (0,0))->some k≠row:=λhk e=>by
  obtain⟨_,o,ho,hc⟩:=hr _ e.symm;rw[hk]at ho;cases ho;cases hc
 refine⟨v,gb,(hg.block _ (Array.getElem?_eq_some_iff.1 h1).1 (hrow h1)).trans h1,h2.kept hg ?_,h3,h4.step hg hd (λr e=>.inr (by have:=(hr r e).1;omega)),h5.step hg ?_⟩;rcases h2.lies with⟨rfl,_⟩|⟨g,cap,cur,e,rfl,_,_,hb,_⟩
 ·exact .inl rfl
 ·exact .inr (hrow hb)
 ·cases hb:b0 with
  |none=>exact .inl rfl
  |some g=>exact .inr λe=>by have:=(hr g e.symm).1;have:=hb0 g hb;omega
set_option maxRecDepth 100000 in
theorem EL(W0:World)(v0:Value)(l:List aJ)(b0:Option Nat)(hrow:qL 1 b0 W0.heap.size W0 v0 l.length (l.flatMap aJ.enc) b0)(hb0:∀b,b0=some b->b<W0.heap.size){Bm ob b clock:Nat}{es:Array MapEntry}(hm:W0.cell? ⟨Bm,ob,none⟩=some (.map (some b)))(hBm:some Bm≠b0)
 (hb:W0.heap[b]? =some (.map es clock))(hbb:some b≠b0)(hborn:eR es clock)(key:MapEntry->aJ)(hkey:∀e∈es.toList,e.key=pW (key e))(hN:(l.length+es.size)*16<=140737488355328):
 Calls Tryz.prog 134 #[v0,.func (.func 82) #[] #[.pointer (some ⟨Bm,ob,none⟩)]] W0 λe W'=>
  ∃v ss gb,e=.returned v/\List.Perm ss (es.toList.map key)/\qL 1 b0 W0.heap.size W' v (l.length+ss.length) ((l++ss).flatMap aJ.enc) gb/\CO b0 W0 W'/\zA (l.length*1) b0 W0 W':=by
 refine(callsIn_wide (n:=6)).1 ?_;obtain⟨ba,bn,bc,hv0⟩:∃ba bn bc,v0=.slice ba bn bc:=by
  rcases hrow.lies with⟨_,_,a,rfl⟩|⟨g,cap,cur,e,_,rfl,_⟩
  ·exact⟨_,_,_,rfl⟩
  ·exact⟨_,_,_,rfl⟩
 subst hv0;have hBml:Bm<W0.heap.size:=World.block_lt_of_cell? W0 _ hm;have hbl:b<W0.heap.size:=(Array.getElem?_eq_some_iff.1 hb).1;refine callsIn_of_wp_marks Tryz.func134 rfl trivial ?_ rfl;simp only[Tryz.ntmps134,List.size_toArray,List.length_cons,List.length_nil,Nat.reduceAdd,Nat.reduceSub,Array.replicate_succ,Array.replicate_zero,List.push_toArray,List.append_toArray,List.nil_append,List.cons_append]
 gi_wp2
 obtain⟨W1,hW1⟩:∃W1,W0.alloc (.cells #[.slice ba bn bc] 32)=W1:=⟨_,rfl⟩;have hs1:W1.heap.size=W0.heap.size+1:=by rw[<-hW1];simp
 have hg1:W0.grownBy W1 none:=by rw[<-hW1];exact World.grownBy_alloc W0 _ none
 have hd1:W0.drawn<=W1.drawn:=by rw[<-hW1];exact Nat.le_refl _
 have hv1:W1.heap[W0.heap.size]? =some (.cells #[.slice ba bn bc] 32 (0,0)):=by rw[<-hW1];exact heap_alloc_new W0 _
 rw[hW1];clear hW1;refine rL (enc:=pW) (N:=es.size) (S:=λss=>List.Perm ss (es.toList.map key)) rfl (by omega) rfl trivial (enters_of Tryz.func82 (by kernel_rfl) rfl) (UC b0 W0 l) (by rw[hs1];exact PO b0 W0 l hb0)
  ⟨.slice ba bn bc,b0,hv1,by simpa using hrow.kept hg1 (by cases b0<;>simp),λe=>by have:=hb0 _ e;omega,(CO.refl b0 W0).step hg1 hd1 (λr e=>by cases e),(zA.refl _ b0 W0).step hg1 (by cases b0<;>simp)⟩ ?_
  (λx a' W=>a'=⟨#[.slice ba bn bc,.func (.func 82) #[] #[.pointer (some ⟨Bm,ob,none⟩)],.pointer (some ⟨W0.heap.size,0,none⟩),undef,.slice none 0 0,.string ⟨x.toArray⟩,.func (.func 82) #[] #[.pointer (some ⟨Bm,ob,none⟩)],pW x,undef,undef,undef,undef,undef],[]⟩) ?_ ?_ ?_ ?_
 ·intro l' J W2 hI hsz hJ hY hJ0;obtain⟨v,gb,q1,q2,q3,q4,q6⟩:=hI;exact Cm _ 5 trivial rfl (by omega) W2 ((World.cell?_of_block (q4.block Bm hBml hBm)).trans hm) ((q4.block b hbl hbb).trans hb) hborn key hkey l' J hJ hY hJ0
 ·exact λx a' s W W' row h _ _ _=>h
 ·intro l' pre x W K hI hK;change Code.wpIn (Fence.wide.inRound l') (6-1-1) Tryz.prog _ _ ⟨#[.slice ba bn bc,.func (.func 82) #[] #[.pointer (some ⟨Bm,ob,none⟩)],.pointer (some ⟨W0.heap.size,0,none⟩),undef,.slice none 0 0,undef,.func (.func 82) #[] #[.pointer (some ⟨Bm,ob,none⟩)],pW x,undef,undef,undef,undef,undef],[]⟩ W;have hK':=hK _ W ⟨rfl,rfl,rfl,Nat.le_refl _,λ_ _ _=>rfl⟩ (Nat.le_refl _) rfl;clear hK;unfold pW at hK'|-
  gi_wp2_with gi_round_op_a
  exact hK'
 ·rintro l' pre x a' W ⟨v,gb,q1,q2,q3,q4,q6⟩ rfl hlen;obtain⟨hc1,hf1⟩:=cell_of_box_a q1;obtain⟨inf,d,z,i1,i2,i3,i4,i5,i6,i7⟩:=hT.parts (t:=9) (by simp[TK.isNone]);simp at i4 i5 i7;obtain⟨va,vn,vc,hv⟩:∃va vn vc,v=.slice va vn vc:=by
   rcases q2.lies with⟨_,_,a,rfl⟩|⟨g,cap,cur,e,_,rfl,_⟩
   ·exact⟨_,_,_,rfl⟩
   ·exact⟨_,_,_,rfl⟩
  subst hv;have hWs:W0.heap.size<W.heap.size:=(Array.getElem?_eq_some_iff.1 q1).1;have q5:qL 1 b0 W0.heap.size (W.alloc (.cells #[.string ⟨x.toArray⟩] 9)) (.slice va vn vc) (l.length+pre.length) ((l++pre).flatMap aJ.enc) gb:=q2.kept (World.grownBy_alloc W _ none) (by cases gb<;>simp);have hnew:∀(j:Nat) (u:Value),[Value.string ⟨x.toArray⟩][j]? =some u->(W.alloc (.cells #[.string ⟨x.toArray⟩] 9)).cell? ⟨W.heap.size,j,none⟩=some u:=λj u hj=>by
   have:=heap_alloc_new W (.cells #[.string ⟨x.toArray⟩] 9);simp only[World.cell?,this];simpa using hj
  gi_wp2_with (first
   |(gi_at_builtin;refine tP _ rfl _ _ 32 rfl Tryz.underlying32 i1 i6 i4 (by rw[<-Array.length_toList,i7];rfl) (by decide) rfl q5 (by simp;omega) rfl (news:=[.string ⟨x.toArray⟩]) rfl (by simp[Value.oneCell']) hnew (by rw[i5];omega) (by omega) ?_;intro v' W3 g' r1 r2 r3 r4 r5
     have hv3:W3.heap[W0.heap.size]? =some (.cells #[.slice va vn vc] 32 (0,0)):=(r2.block _ (by simp;omega) (λe=>q3 e.symm)).trans ((heap_alloc_old W _ hWs).trans q1);obtain⟨hc3,hf3⟩:=cell_of_box_a hv3;obtain⟨cap',cur',e',rfl,s2,s3,s4,s5,s6,s7⟩:∃cap' cur' e',v'=.slice (some ⟨g',0,none⟩) (l.length+pre.length+1) cap'/\(b0=some g'\/W0.heap.size<=g')/\W3.heap[g']? =some (.cells cur' e' (0,0))/\l.length+pre.length+1<=cap'/\cap'<=maxLen/\cap'*1=cur'.size/\cur'.toList.take ((l.length+pre.length+1)*1)=(l++pre).flatMap aJ.enc++[.string ⟨x.toArray⟩]:=by
      rcases r1.lies with⟨h,_⟩|⟨g,cap,cur,e,h,h1,h2,h3,h4,h5,h6,h7⟩
      ·cases h
      ·injection h with h;subst h;exact⟨cap,cur,e,h1,h2,h3,h4,h5,h6,h7⟩
     go_frame)
   |gi_round_op_a)
  have hg0:W.grownBy (W.alloc (.cells #[.string ⟨x.toArray⟩] 9)) none:=World.grownBy_alloc W _ none;have hd0:W.drawn<=(W.alloc (.cells #[.string ⟨x.toArray⟩] 9)).drawn:=Nat.le_refl _;have hgb:∀r,gb=some r->(b0=some r\/W0.heap.size<=r)/\∃cur e,W.heap[r]? =some (.cells cur e (0,0)):=λr e=>by
   rcases q2.lies with⟨h,_⟩|⟨g,cap,cur,e',h,_,h2,h3,_⟩
   ·rw[h]at e;cases e
   ·rw[h]at e;injection e with e;subst e;exact⟨h2,cur,e',h3⟩
  have hgne:g'≠W0.heap.size:=by
   rcases r4 with h|h
   ·exact λe=>q3 (by rw[h,e])
   ·rw[h];simp;omega
  generalize W.alloc (.cells #[.string ⟨x.toArray⟩] 9)=W2 at*;have hg4:W3.grownBy (W3.setCell ⟨W0.heap.size,0,none⟩ (.slice (some ⟨g',0,none⟩) (l.length+pre.length+1) cap')) (some W0.heap.size):=grownBy_setCell0_a _ _ _;refine⟨⟨Nat.le_trans hg0.size (Nat.le_trans r2.size hg4.size),λk o hk ho hcell=>?_⟩,((KeepsWalks.of_grownBy hg0 (λj o e=>by cases e)).trans (KeepsWalks.of_grownBy r2 (λj o e ho=>?_))).trans (KeepsWalks.setCell _ _ _),
   .slice (some ⟨g',0,none⟩) (l.length+pre.length+1) cap',some g',heap_setCell_box_a _ hv3,?_,λe=>hgne (by injection e),((q4.step hg0 hd0 (λr e=>by cases e)).step r2 r3 (λr e=>(hgb r e).1)).step hg4 (Nat.le_refl _) (λr e=>.inr (by injection e with e;omega)),((q6.step hg0 (by cases b0<;>simp)).write (by rw[Nat.add_mul];omega) r2 r5).step hg4 ?_⟩
  ·have h2:=(hg0.block k (Array.getElem?_eq_some_iff.1 ho).1 (by simp)).trans ho;have h3:=(r2.block k (Array.getElem?_eq_some_iff.1 h2).1 (λe=>by
    obtain⟨_,cur,e',h⟩:=hgb k e.symm;rw[ho]at h;cases h;cases hcell)).trans h2
   exact(hg4.block k (Array.getElem?_eq_some_iff.1 h3).1 (λe=>by injection e with e;omega)).trans h3
  ·obtain⟨_,cur,e',h⟩:=hgb j e;have h2:=(hg0.block j (Array.getElem?_eq_some_iff.1 h).1 (by simp)).trans h;rw[ho]at h2;cases h2;rfl
  ·have:=r1.kept hg4 (.inr (λe=>hgne (by injection e)));simpa [aJ.enc,pW,Nat.add_assoc]using this
  ·cases hb:b0 with
   |none=>exact .inl rfl
   |some g=>exact .inr λe=>by injection e with e;have:=hb0 g hb;omega
 ·rintro D xs W hD hS ⟨v,gb,q1,q2,q3,q4,q6⟩ hdef;obtain⟨hc1,hf1⟩:=cell_of_box_a q1
  gi_wp2
  refine⟨by simp,.inl ⟨_,_,rfl,run_takeDeferred hdef,?_⟩⟩;refine⟨_,results_tmp rfl _ _ _,v,xs,gb,rfl,hS,q2.kept (grownBy_putObj_a _ _ _) ?_,q4.step (grownBy_putObj_a _ _ _) (Nat.le_refl _) (λr e=>.inr (by injection e with e;omega)),q6.step (grownBy_putObj_a _ _ _) ?_⟩;rcases q2.lies with⟨h,_⟩|⟨g,cap,cur,e',h,_,h2,h3,_⟩
  ·exact .inl h
  ·refine .inr λe=>?_;rw[h]at e;injection e with e;subst e
   rw[hdef]at h3;cases h3
  ·cases hb:b0 with
   |none=>exact .inl rfl
   |some g=>exact .inr λe=>by injection e with e;have:=hb0 g hb;omega
end
section
attribute[local simp] hZ.cond Nd.d_eq nd_t nd_dr nd_td ndsD aO bA rJ wB bZ.d
theorem MF{ts:List Nd}{us:List bZ}{i:Nat}{u:bZ}(h:us[i]? =some u):xT ts (us.take (i+1))=if fT ts u=0 then xT ts (us.take i)else gI (xT ts (us.take i)) (fT ts u):=by
 obtain⟨hi,he⟩:=List.getElem?_eq_some_iff.1 h;unfold xT;rw[List.take_succ_eq_append_getElem hi,List.foldl_append,he];rfl
theorem Ji(ts:List Nd)(x:Nd)(hx:weighN x<=1000000000)(hts:∀t∈ts,weighN t<=1000000000):Ok Tryz.prog 62 [uO ts,x.d] ⟨.d (aH (Ck ts x)),true⟩:=by
 refine bF Tryz.func62 rfl Tryz.ntmps62 Tryz.results62 λw0 X hp=>?_;have ku:=ED x;simp at ku;refine aA ?_;simp[uO];refine aA ?_;simp;refine aA ?_;simp;refine aA ?_;simp[bN,fO,gT,Fr];refine dT (dK 7 [13] (fz:=false) (cs:=[.mp 13]) (ds:=[wD]) (by simp) (by simp) (by simp[wD]) (by simp[aP.mut])) ?_;refine aD ?_;refine aX hT hW (λ|16=>some<| .plain ⟨.d (.fn 75 [.ro [aH x.kind,.str x.text,aH x.n,.sl (x.kids.map Nd.d)]]),false⟩|_=>none) ?_;simp;refine⟨ku,?_⟩;refine aL ?_;refine dT (aB hp [2,5,6,7,16] [(2,2),(5,5),(6,6),(7,7)] (env':=aQ [(2,.bx 2 0),(5,.bx 5 0),(6,.bx 6 0),(7,.bx 7 0),(16,.d (.fn 75 [.ro [aH x.kind,.str x.text,aH x.n,.sl (x.kids.map Nd.d)]]))]) (H':=aG [(2,.box false [.d (ndsD ts),.d (.mp (lF ts) (lQ ts.length))]),(5,.box false [.d (aH 0)]),(6,.box false [.fn 103 [.bx 5 0]]),(7,.box false [.d wD])]) (by simp) (by simp)) ?_;refine eO.rangeFunc (items:=(aW x).map wB) (by simpa using xS x hx) (by simp) (by intro it hit;obtain⟨u,_,rfl⟩:=List.mem_map.1 hit;rfl) (by simp) (by kernel_rfl) (by kernel_rfl) (λi=>aG [(2,.box false [.d (ndsD ts),.d (.mp (lF ts) (lQ ts.length))]),(5,.box false [.d (aH (xT ts ((aW x).take i)))]),(6,.box false [.fn 103 [.bx 5 0]]),(7,.box false [.d wD])]) (λi=>aG [(2,.box false [.d (ndsD ts),.d (.mp (lF ts) (lQ ts.length))]),(5,.box false [.d (aH (xT ts ((aW x).take (i+1))))]),(6,.box false [.fn 103 [.bx 5 0]]),(7,.box false [.d wD]),(9,.box false [.d (aH (nZ x i).kind),.d (.str (nZ x i).name),.d (.str (nZ x i).field)])]) (rfl) [2,5,6,7] (by decide) (by simp[hp]) (λi id h=>by simpa using kX id h) (λi=>aQ [(2,.bx 2 0),(5,.bx 5 0),(6,.bx 6 0),(7,.bx 7 0),(9,.bx 9 0)]) (λi=>aG [(2,.box false [.d (ndsD ts),.d (.mp (lF ts) (lQ ts.length))]),(5,.box false [.d (aH (xT ts ((aW x).take i)))]),(6,.box false [.fn 103 [.bx 5 0]]),(7,.box false [.d wD]),(9,.box false [.d (aH (nZ x i).kind),.d (.str (nZ x i).name),.d (.str (nZ x i).field)])]) [2,5,6,7,9] (λi id h=>by simpa using kX id h) (λi hi=>?_) (λw1 X1 i it hp hit=>?_) (λw1 X1 i it hp hit=>?_) ?_
 ·simp
 ·obtain⟨u,hu,rfl⟩:=dF hit;have hU:=tF hu;refine aM ?_;simp;exact aB hp [2,5,6,7,9] [(2,2),(5,5),(6,6),(7,7),(9,9)] (hH:=by simp[hU])
 ·obtain⟨u,hu,rfl⟩:=dF hit;have hU:=tF hu;obtain⟨o,ho⟩:∃o,xT ts ((aW x).take i)=o:=⟨_,rfl⟩;have ho4:lG o:=by rw[<-ho];exact ME _ _
  have hs:=MF (ts:=ts) hu;have he4:=xU ts u;rw[ho]at hs;simp[hU,ho];refine aL ?_;refine aA ?_;simp[EJ,aR];refine aL ?_;refine aA ?_;simp;refine aC ?_;simp;refine⟨λh7=>?_,λh7=>?_⟩
  ·have he:fT ts u=6:=by unfold fT;cases h:lB ts u.name<;>simp_all
   have kw:=Bt o 6 ho4 (by simp[lG]);rw[he,if_neg (by decide)]at hs;refine eO.ro hT hW (λ|32=>some (.gen ⟨[(5,0)],[],[],[(0,.box false [.d (aH (gI o 6))])],.tup []⟩)|_=>none) ?_;simp;refine⟨by simpa using kw,?_⟩;exact aB hp [] [(2,2),(5,5),(6,6),(7,7),(9,9)] (hH:=by simp[hU,hs])
  ·obtain⟨j,hj⟩:∃j,lB ts u.name=some j:=by cases h:lB ts u.name<;>simp_all
   have hjl:=rP hj;obtain⟨t,ht⟩:∃t,ts[j]=t:=⟨_,rfl⟩;have htm:t∈ts:=by rw[<-ht];exact List.getElem_mem hjl
   have hat:Ri ts u.name=(j:Nat):=by unfold Ri;rw[hj];rfl
   have hget:ts.getD j default=t:=(by rw[List.getD_eq_getElem?_getD,List.getElem?_eq_getElem hjl,ht];rfl);refine aD ?_;refine eO.rd [] [] (λ_=>none) ?_;simp[hat,hjl,ht];refine aC ?_;simp;refine⟨λh9=>?_,λh9=>?_⟩
   ·have he:fT ts u=12:=by unfold fT;rw[hj];simp only[hget];rw[if_pos h9]
    have kw:=Bt o 12 ho4 (by simp[lG]);rw[he,if_neg (by decide)]at hs;refine eO.ro hT hW (λ|45=>some (.gen ⟨[(5,0)],[],[],[(0,.box false [.d (aH (gI o 12))])],.tup []⟩)|_=>none) ?_;simp;refine⟨by simpa using kw,?_⟩;exact aB hp [] [(2,2),(5,5),(6,6),(7,7),(9,9)] (hH:=by simp[hU,hs])
   ·have hk9:t.kind=u.kind:=(by omega);refine aD ?_;by_cases h1:u.kind=1
    rotate_left
    ·refine eO.rd [[],[],[],[],[],[],[],[],[],[],[56],[56]] [[],[],[],[],[],[],[],[],[],[56],[],[],[59]] (λ_=>none) ?_;simp[hat,hjl,ht,h1];have he:fT ts u=0:=by unfold fT;rw[hj];simp only[hget];rw[if_neg (by simp[hk9]),if_neg (by simp[h1])]
     rw[he,if_pos rfl]at hs;refine aC ?_;simp[hat,hjl,ht,h1];refine aE ?_;simp;exact aB hp [] [(2,2),(5,5),(6,6),(7,7),(9,9)] (hH:=by simp[hU,hs])
    ·have kf:=Dl t (hts t htm);have ki:=Gt (bP t) u.field;simp at kf;refine eO.rd [[],[],[],[],[],[],[],[],[],[],[56],[56]] [[],[],[],[],[],[],[],[],[],[56],[],[],[59]] (λ|56=>some<| .plain ⟨.own 1 ((bP t).map .str),true⟩|59=>some<| .plain ⟨.d (.bool (decide (u.field∈bP t))),true⟩|_=>none) ?_;simp[hat,hjl,ht,h1];refine⟨⟨kf,by simpa using ki⟩,?_⟩;refine aC ?_;simp;refine⟨λh11=>?_,λh11=>?_⟩
     ·have he:fT ts u= -1:=by unfold fT;rw[hj];simp only[hget];rw[if_neg (by simp[hk9]),if_pos (by simp_all)]
      have kw:=Bt o (-1) ho4 (by simp[lG]);rw[he,if_neg (by decide)]at hs;refine eO.ro hT hW (λ|64=>some (.gen ⟨[(5,0)],[],[],[(0,.box false [.d (aH (gI o (-1)))])],.tup []⟩)|_=>none) ?_;simp;refine⟨by simpa using kw,?_⟩;exact aB hp [] [(2,2),(5,5),(6,6),(7,7),(9,9)] (hH:=by simp[hU,hs])
     ·have he:fT ts u=0:=by unfold fT;rw[hj];simp only[hget];rw[if_neg (by simp[hk9]),if_neg (by simp_all)]
      rw[he,if_pos rfl]at hs;refine aE ?_;simp;exact aB hp [] [(2,2),(5,5),(6,6),(7,7),(9,9)] (hH:=by simp[hU,hs])
 ·refine aD ?_;refine aA ?_;simp;refine aC ?_;simp;refine⟨λh13=>?_,λh13=>?_⟩
  ·refine aA ?_;simp;refine aF ?_;unfold Ck;rw[if_pos h13];simp
  ·refine aE ?_;simp;refine aA ?_;simp;refine aF ?_;unfold Ck;rw[if_neg h13];simp
end
section
attribute[local simp] hZ.cond Nd.d_eq nd_t nd_dr nd_td ndsD aO bA rJ wB bZ.d
def gQ(ts:List Nd)(b:Int->Bool)(f:Nat->List Nat->List Nat)(M:List Nat)(u:bZ):List Nat:=match lB ts u.name with
 |some k=>if b u.bk=true/\k∉M then f k (M++[k])else M
 |none=>M
def fA(ts:List Nd)(b:Int->Bool):Nat->Nat->List Nat->List Nat
 |0,_,M=>M
 |f+1,i,M=>(aW (ts.getD i default)).foldl (gQ ts b (fA ts b f)) M
theorem xV(ts:List Nd)(b:Int->Bool)(f i:Nat)(M:List Nat):fA ts b (f+1) i M=(aW (ts.getD i default)).foldl (gQ ts b (fA ts b f)) M:=rfl
def MG(n:Nat)(M:List Nat):Nat:=((List.range n).filter λk=>decide (k∉M)).length
theorem PP{n:Nat}{M M':List Nat}(h:∀k∈M,k∈M'):MG n M'<=MG n M:=by
 unfold MG;have:(List.range n).filter (λk=>decide (k∉M'))=((List.range n).filter (λk=>decide (k∉M))).filter λk=>decide (k∉M'):=by
  rw[List.filter_filter];congr 1;funext k;by_cases hk:k∈M'
  ·simp[hk]
  ·have:k∉M:=λh'=>hk (h k h');simp[hk,this]
 rw[this];exact List.length_filter_le _ _
theorem uR{α:Type}{p q:α->Bool}:∀{l:List α} {x:α},(∀y,q y=true->p y=true)->x∈l->p x=true->q x=false->(l.filter q).length<(l.filter p).length
 |a::l,x,hpq,hx,hp,hq=>by
  have le:(l.filter q).length<=(l.filter p).length:=by
   have:l.filter q=(l.filter p).filter q:=by
    rw[List.filter_filter];congr 1;funext y;cases h:q y with
    |true=>simp[hpq y h]
    |false=>simp
   rw[this];exact List.length_filter_le _ _
  rcases List.mem_cons.1 hx with rfl|hx
  ·rw[List.filter_cons_of_pos hp,List.filter_cons_of_neg (by simp[hq])];simp only[List.length_cons];omega
  ·have ih:=uR hpq hx hp hq;by_cases h1:p a=true
   ·by_cases h2:q a=true
    ·rw[List.filter_cons_of_pos h1,List.filter_cons_of_pos h2];simpa using ih
    ·rw[List.filter_cons_of_pos h1,List.filter_cons_of_neg h2];simp only[List.length_cons];omega
   ·have h2:¬q a=true:=λh=>h1 (hpq a h);rw[List.filter_cons_of_neg h1,List.filter_cons_of_neg h2];exact ih
theorem PQ{n:Nat}{M:List Nat}{k:Nat}(hk:k<n)(h:k∉M):MG n (M++[k])<MG n M:=by
 unfold MG;exact uR (x:=k) (λy hy=>by simp at hy|-;exact hy.1) (List.mem_range.2 hk) (by simpa using h) (by simp)
theorem nR{α:Type}{f:List Nat->α->List Nat}(h:∀M x k,k∈M->k∈f M x):∀(l:List α) (M:List Nat),∀k∈M,k∈l.foldl f M
 |[],_,_,hk=>hk
 |x::l,M,k,hk=>nR h l (f M x) k (h M x k hk)
theorem uS(ts:List Nd)(b:Int->Bool):∀(f i:Nat) (M:List Nat),∀k∈M,k∈fA ts b f i M
 |0,_,_,_,hk=>hk
 |f+1,i,M,k,hk=>by
  refine nR (λM u k hk=>?_) _ M k hk;unfold gQ;split
  ·split
   ·exact uS ts b f _ _ k (List.mem_append_left _ hk)
   ·exact hk
  ·exact hk
theorem uT(ts:List Nd)(b:Int->Bool)(f:Nat)(M:List Nat)(u:bZ):∀k∈M,k∈gQ ts b (fA ts b f) M u:=λk hk=>by
 unfold gQ;split
 ·split
  ·exact uS ts b f _ _ k (List.mem_append_left _ hk)
  ·exact hk
 ·exact hk
def wF(M:List Nat):List DV:=M.map λ(k:Nat)=>aH (k:Int)
def Cn(M:List Nat):List DV:=M.map λ_=>.bool true
theorem xW(k:Nat):∀(M:List Nat) (i:Nat),fO (aH (k:Int)) (wF M) i=some ((M.findIdx? (λx=>decide (k=x))).map (·+i))
 |[],i=>rfl
 |x::r,i=>by
  have e:gT (aH (k:Int)) (aH (x:Int))=some (decide (k=x)):=by
   simp only[gT,Fr,Option.some.injEq];by_cases h:k=x
   ·simp[h]
   ·have:¬((k:Int)=x):=(by omega);simp[h,this]
  unfold wF;rw[List.map_cons,fO,e,List.findIdx?_cons];by_cases h:k=x
  ·simp[h]
  ·simp only[h,decide_false,Bool.false_eq_true,if_false];have:=xW k r (i+1);unfold wF at this;rw[this];cases r.findIdx? (λx=>decide (k=x))with
   |none=>rfl
   |some j=>simp;omega
theorem Bw{M:List Nat}{m:Nat}(h:m∉M):(M.findIdx? λx=>decide (m=x))=none:=by
 rw[List.findIdx?_eq_none_iff];intro x hx;simp;intro e;subst e;exact h hx
theorem Jj{M:List Nat}{m:Nat}(h:m∈M):∃j,(M.findIdx? λx=>decide (m=x))=some j/\j<M.length:=by
 cases q:(M.findIdx? λx=>decide (m=x))with
 |none=>rw[List.findIdx?_eq_none_iff]at q;have:=q m h;simp at this
 |some j=>exact⟨j,rfl,(List.findIdx?_eq_some_iff_getElem.1 q).1⟩
theorem GG(M:List Nat){H:cT}{x:LV}{k:Nat}(h:oE H x=some (wF M,Cn M)):
 cB T H 89 x (.d (aH (k:Int))) false=⟨.d (.bool (decide (k∈M))),True,[]⟩:=by
 unfold cB;simp only[Vl,h,xW];by_cases hm:k∈M
 ·obtain⟨j,hj,hl⟩:=Jj hm;simp[hj,hl,hm,oD,bJ,eV,Cn]
 ·simp[Bw hm,hm,oD,bJ,eV,fY,qR,TK.isNone,TK.agg]
theorem Sa(M:List Nat){H:cT}{id:Nat}{k:Nat}(hm:k∉M)(h:H id=.map false (wF M) (Cn M)):
 bN T H 89 (.mp id) (.d (aH (k:Int))) (.d (.bool true))=⟨.junk,True,[(id,.map false (wF (M++[k])) (Cn (M++[k])))]⟩:=by
 unfold bN;simp only[Vl,h,xW,Bw hm];simp[oD,bJ,eV,wF,Cn]
def zZ(ts:List Nd)(g:FuncId)(M:List Nat):List (Nat×aP):=[(1,.box false [.d (ndsD ts),.d (.mp (lF ts) (lQ ts.length))]),(2,.box false [.d (.fn g [])]),(3,.box false [.mp 100]),(4,.box false [.fn 88 [.bx 1 0,.bx 2 0,.bx 3 0,.bx 4 0]]),(100,.map false (wF M) (Cn M))]
theorem PR(ts:List Nd)(b:Int->Bool)(g:FuncId)(f i0:Nat)(M:List Nat)(hts:∀t∈ts,weighN t<=1000000000)(hby:∀k,Ok Tryz.prog g [aH k] ⟨.d (.bool (b k)),true⟩)(hi0:i0<ts.length)(hf:MG ts.length M<f+1)(ih:∀k M',k<ts.length->MG ts.length M'<f->jA Tryz.prog 88 [.d (aH (k:Int)),.bx 1 0,.bx 2 0,.bx 3 0,.bx 4 0] (zZ ts g M') (zZ ts g (fA ts b f k M')) (.tup [])):jA Tryz.prog 88 [.d (aH (i0:Int)),.bx 1 0,.bx 2 0,.bx 3 0,.bx 4 0] (zZ ts g M) (zZ ts g (fA ts b (f+1) i0 M)) (.tup []):=by
 unfold zZ at*;refine pU Tryz.func88 rfl Tryz.ntmps88 Tryz.results88 λw0 X hp=>?_;obtain⟨x,hx⟩:∃x,ts[i0]=x:=⟨_,rfl⟩;have hxm:x∈ts:=by rw[<-hx];exact List.getElem_mem hi0
 have hget:ts.getD i0 default=x:=by rw[List.getD_eq_getElem?_getD,List.getElem?_eq_getElem hi0,hx];rfl
 have hxw:=hts x hxm;have hF:fA ts b (f+1) i0 M=(aW x).foldl (gQ ts b (fA ts b f)) M:=by rw[xV,hget]
 have ku:=ED x;simp at ku;refine aX hT hW (λ|15=>some<| .plain ⟨.d (.fn 75 [.ro [aH x.kind,.str x.text,aH x.n,.sl (x.kids.map Nd.d)]]),false⟩|_=>none) ?_;simp[hi0,hx];refine⟨ku,?_⟩;refine aL ?_;refine dT (aB hp [1,2,3,4,15] [(1,1),(2,2),(3,3),(4,4),(100,100)] (env':=aQ [(1,.bx 1 0),(2,.bx 2 0),(3,.bx 3 0),(4,.bx 4 0),(15,.d (.fn 75 [.ro [aH x.kind,.str x.text,aH x.n,.sl (x.kids.map Nd.d)]]))]) (H':=aG [(1,.box false [.d (ndsD ts),.d (.mp (lF ts) (lQ ts.length))]),(2,.box false [.d (.fn g [])]),(3,.box false [.mp 100]),(4,.box false [.fn 88 [.bx 1 0,.bx 2 0,.bx 3 0,.bx 4 0]]),(100,.map false (wF M) (Cn M))]) (by simp) (by simp)) ?_;refine eO.rangeFunc (items:=(aW x).map wB) (by simpa using xS x hxw) (by simp) (by intro it hit;obtain⟨u,_,rfl⟩:=List.mem_map.1 hit;rfl) (by simp) (by kernel_rfl) (by kernel_rfl) (λi=>aG [(1,.box false [.d (ndsD ts),.d (.mp (lF ts) (lQ ts.length))]),(2,.box false [.d (.fn g [])]),(3,.box false [.mp 100]),(4,.box false [.fn 88 [.bx 1 0,.bx 2 0,.bx 3 0,.bx 4 0]]),(100,.map false (wF (((aW x).take i).foldl (gQ ts b (fA ts b f)) M)) (Cn (((aW x).take i).foldl (gQ ts b (fA ts b f)) M)))]) (λi=>aG [(1,.box false [.d (ndsD ts),.d (.mp (lF ts) (lQ ts.length))]),(2,.box false [.d (.fn g [])]),(3,.box false [.mp 100]),(4,.box false [.fn 88 [.bx 1 0,.bx 2 0,.bx 3 0,.bx 4 0]]),(7,.box false [.d (aH (nZ x i).kind),.d (.str (nZ x i).name),.d (.str (nZ x i).field)]),(100,.map false (wF (((aW x).take (i+1)).foldl (gQ ts b (fA ts b f)) M)) (Cn (((aW x).take (i+1)).foldl (gQ ts b (fA ts b f)) M)))]) (rfl) [1,2,3,4,100] (by decide) (by simp[hp]) (λi id h=>by simpa using kX id h) (λi=>aQ [(1,.bx 1 0),(2,.bx 2 0),(3,.bx 3 0),(4,.bx 4 0),(6,.d (aH (nZ x i).bk)),(7,.bx 7 0)]) (λi=>aG [(1,.box false [.d (ndsD ts),.d (.mp (lF ts) (lQ ts.length))]),(2,.box false [.d (.fn g [])]),(3,.box false [.mp 100]),(4,.box false [.fn 88 [.bx 1 0,.bx 2 0,.bx 3 0,.bx 4 0]]),(7,.box false [.d (aH (nZ x i).kind),.d (.str (nZ x i).name),.d (.str (nZ x i).field)]),(100,.map false (wF (((aW x).take i).foldl (gQ ts b (fA ts b f)) M)) (Cn (((aW x).take i).foldl (gQ ts b (fA ts b f)) M)))]) [1,2,3,4,7,100] (λi id h=>by simpa using kX id h) (λi hi=>?_) (λw1 X1 i it hp hit=>?_) (λw1 X1 i it hp hit=>?_) ?_
 ·simp
 ·obtain⟨u,hu,rfl⟩:=dF hit;have hU:=tF hu;refine aA ?_;simp;refine aM ?_;simp;exact aB hp [1,2,3,4,6,7] [(1,1),(2,2),(3,3),(4,4),(7,7),(100,100)] (by simp[hU]) (by simp[hU])
 ·obtain⟨u,hu,rfl⟩:=dF hit;have hU:=tF hu;obtain⟨o,ho⟩:∃o,((aW x).take i).foldl (gQ ts b (fA ts b f)) M=o:=⟨_,rfl⟩;have hs:((aW x).take (i+1)).foldl (gQ ts b (fA ts b f)) M=gQ ts b (fA ts b f) o u:=by
   obtain⟨hi,he⟩:=List.getElem?_eq_some_iff.1 hu;rw[List.take_succ_eq_append_getElem hi,List.foldl_append,he,ho];rfl
  have hmo:MG ts.length o<f+1:=by
   refine Nat.lt_of_le_of_lt (PP λk hk=>?_) hf;rw[<-ho];exact nR (uT ts b f) _ M k hk
  simp[hU,ho];refine aL ?_;refine aA ?_;simp[EJ,aR];refine aD ?_;by_cases ha:(lB ts u.name).isSome=true
  rotate_left
  ·refine sN hT hW (λ_=>none) (by intro d;first|exact⟨rfl,λ_ h=>h⟩|(split<;>exact⟨rfl,λ_ h=>h⟩)) ?_;simp[ha];have hS:gQ ts b (fA ts b f) o u=o:=by unfold gQ;rw[show lB ts u.name=none by simpa using ha]
   refine aC ?_;simp[ha];refine aE ?_;simp;exact aB hp [] [(1,1),(2,2),(3,3),(4,4),(7,7),(100,100)] (hH:=by simp[hU,hs,hS])
  ·obtain⟨j,hj⟩:∃j,lB ts u.name=some j:=by cases h:lB ts u.name<;>simp_all
   have hjl:=rP hj;have hat:Ri ts u.name=(j:Nat):=by unfold Ri;rw[hj];rfl
   have kb:=hby u.bk;have hl:=λ(H:cT) (h:oE H (.mp 100)=some (wF o,Cn o))=>GG o (k:=j) h;refine eO.ro hT hW (λ|30=>some<| .plain ⟨.d (.bool (b u.bk)),true⟩|_=>none) ?_;simp[ha,hat,hl,oE];refine⟨kb,?_⟩;refine aC ?_;simp;refine⟨λh4 ho4=>?_,λh4=>?_⟩
   ·have hS:gQ ts b (fA ts b f) o u=fA ts b f j (o++[j]):=by unfold gQ;rw[hj];exact if_pos ⟨h4,ho4⟩
    refine aA ?_;simp[Sa o ho4];refine eO.ro hT hW (λ|42=>some (.gen ⟨[(1,1),(2,2),(3,3),(4,4),(100,100)],[],[],zZ ts g (fA ts b f j (o++[j])),.tup []⟩)|_=>none) ?_;simp[zZ];have hI:=ih j (o++[j]) hjl (by have:=PQ hjl ho4;omega);refine⟨by simpa using hI,?_⟩;exact aB hp [] [(1,1),(2,2),(3,3),(4,4),(7,7),(100,100)] (hH:=by simp[hU,hs,hS])
   ·have hS:gQ ts b (fA ts b f) o u=o:=by unfold gQ;rw[hj];exact if_neg (by simpa using h4)
    refine aE ?_;simp;exact aB hp [] [(1,1),(2,2),(3,3),(4,4),(7,7),(100,100)] (hH:=by simp[hU,hs,hS])
 ·simp;exact aB hp [] [(1,1),(2,2),(3,3),(4,4),(100,100)] (hH:=by simp[hF])
theorem PT(ts:List Nd)(b:Int->Bool)(g:FuncId)(hts:∀t∈ts,weighN t<=1000000000)(hby:∀k,Ok Tryz.prog g [aH k] ⟨.d (.bool (b k)),true⟩):∀(f k:Nat) (M:List Nat),k<ts.length->MG ts.length M<f->jA Tryz.prog 88 [.d (aH (k:Int)),.bx 1 0,.bx 2 0,.bx 3 0,.bx 4 0] (zZ ts g M) (zZ ts g (fA ts b f k M)) (.tup [])
 |0,_,_,_,h=>absurd h (Nat.not_lt_zero _)
 |f+1,k,M,hk,h=>PR ts b g f k M hts hby hk h λk' M' hk' h'=>PT ts b g hts hby f k' M' hk' h'
def gJ(ts:List Nd)(b:Int->Bool)(i:Nat):List Nat:=fA ts b (ts.length+1) i []
theorem Bx(ts:List Nd)(b:Int->Bool)(g:FuncId)(i:Nat)(hts:∀t∈ts,weighN t<=1000000000)(hby:∀k,Ok Tryz.prog g [aH k] ⟨.d (.bool (b k)),true⟩)(hi:i<ts.length):Ok Tryz.prog 51 [uO ts,aH (i:Int),.fn g []] ⟨.d (.mp (wF (gJ ts b i)) (Cn (gJ ts b i))),false⟩:=by
 refine bF Tryz.func51 rfl Tryz.ntmps51 Tryz.results51 λw0 X hp=>?_;refine aA ?_;simp[uO];refine aA ?_;simp;refine aA ?_;simp;refine aA ?_;simp;refine aX hT hW (λ|13=>some (.gen ⟨[(3,1),(5,2),(7,3),(8,4),(9,100)],[],[],zZ ts g (gJ ts b i),.tup []⟩)|_=>none) ?_;simp[zZ];refine⟨by simpa [zZ,gJ,wF,Cn]using PT ts b g hts hby (ts.length+1) i [] hi (Nat.lt_succ_of_le (Nat.le_trans (List.length_filter_le _ _) (by simp))),?_⟩;refine aA ?_;simp;refine aF ?_;simp
theorem MH(k:Int):Ok Tryz.prog 63 [aH k] ⟨.d (.bool (decide (k=14))),true⟩:=by
 refine bF Tryz.func63 rfl Tryz.ntmps63 Tryz.results63 λw0 X hp=>?_;refine aA ?_;simp;refine aA ?_;simp;refine aF ?_;simp
theorem MI(k:Int):Ok Tryz.prog 52 [aH k] ⟨.d (.bool true),true⟩:=by
 refine bF Tryz.func52 rfl Tryz.ntmps52 Tryz.results52 λw0 X hp=>?_;refine aA ?_;simp;refine aA ?_;simp;refine aF ?_;simp
end
inductive Do(l:List Ed):Nm->Nm->Prop
 |one {n m:Nm} (h:m∈KA l n):Do l n m
 |next {n m k:Nm} (h:m∈KA l n) (r:Do l m k):Do l n k
theorem Do.trans{l:List Ed}{n m k:Nm}(r:Do l n m)(s:Do l m k):Do l n k:=by
 induction r with
 |one h1=>exact .next h1 s
 |next h1 _ ih=>exact .next h1 (ih s)
def MJ{α:Type}(lt:α->α->Bool):List α->Bool
 |a::b::r=>lt a b&&MJ lt (b::r)
 |_=>true
def PU{α:Type}(lt:α->α->Bool)(l:List α)(i:Nat):Prop:=∀(j:Nat) (h:j+1<l.length),j+1<i->lt l[j] l[j+1]=true
theorem GH{α:Type}{lt:α->α->Bool}:∀{l:List α},MJ lt l=true↔∀(j:Nat) (h:j+1<l.length),lt l[j] l[j+1]=true
 |[]=>by simp[MJ]
 |[_]=>by simp[MJ]
 |a::b::r=>by
  simp only[MJ,Bool.and_eq_true];rw[GH (l:=b::r)];constructor
  ·rintro⟨h1,h2⟩ j hj;cases j with
   |zero=>exact h1
   |succ j=>exact h2 j (by simpa using hj)
  ·intro h;exact⟨h 0 (by simp),λj hj=>h (j+1) (by simpa using hj)⟩
theorem PU.succ{α:Type}{lt:α->α->Bool}{l:List α}{i:Nat}(h:PU lt l (i+1))(hi:i+1<l.length)(hp:lt l[i] l[i+1]=true):PU lt l (i+2):=λj hj hji=>by
 by_cases e:j=i
 ·subst e;exact hp
 ·exact h j hj (by omega)
theorem PU.done{α:Type}{lt:α->α->Bool}{l:List α}{i:Nat}(h:PU lt l i)(hi:l.length<=i):MJ lt l=true:=GH.2 λj hj=>h j hj (by omega)
def dG{α:Type}[DecidableEq α]:List α->List α
 |a::b::r=>if a=b then dG (b::r)else a::dG (b::r)
 |l=>l
theorem By{α:Type}[DecidableEq α]:∀(l:List α) (x:α) (h:l≠[]),dG (l++[x])=if l.getLast h=x then dG l else dG l++[x]
 |[a],x,_=>by
  simp only[List.cons_append,List.nil_append,dG,List.getLast_singleton];split<;>rename_i e<;>simp[e]
 |a::b::r,x,_=>by
  have ih:=By (b::r) x (by simp);have hl:(a::b::r).getLast (by simp)=(b::r).getLast (by simp):=by simp
  rw[hl];simp only[List.cons_append]at ih|-;simp only[dG];rw[ih];by_cases h1:a=b
  ·simp only[if_pos h1]
  ·simp only[if_neg h1];split<;>rfl
theorem MK{α:Type}{l:List α}{p:Nat}(h0:0<p)(hp:p<=l.length)(hne:l.take p≠[]):(l.take p).getLast hne=l[p-1]:=by
 rw[List.getLast_eq_getElem];simp[Nat.min_eq_left hp]
theorem pY{α:Type}[DecidableEq α]{l:List α}{p:Nat}(h0:0<p)(hp:p<l.length):dG (l.take (p+1))=if l[p-1]=l[p]then dG (l.take p)else dG (l.take p)++[l[p]]:=by
 have hne:l.take p≠[]:=λe=>by have:=congrArg List.length e;rw[List.length_take,List.length_nil]at this;omega
 have h1:l.take (p+1)=l.take p++[l[p]]:=by simp
 rw[h1,By _ _ hne,MK h0 (by omega)]
theorem pZ{α:Type}[DecidableEq α]:∀l:List α,(dG l).length<=l.length
 |a::b::r=>by
  have:=pZ (b::r);simp only[dG];split
  ·simp at*;omega
  ·simp at*;omega
 |[]=>Nat.le_refl _
 |[_]=>Nat.le_refl _
theorem Dp{α:Type}[DecidableEq α]{x:α}:∀l:List α,x∈dG l↔x∈l
 |a::b::r=>by
  have:=Dp (x:=x) (b::r);simp only[dG];split
  ·rename_i e;rw[this];subst e;simp
  ·rw[List.mem_cons,this];simp
 |[]=>Iff.rfl
 |[_]=>Iff.rfl
def dR{α:Type}(lt:α->α->Bool)(l:List α):Prop:=l.Pairwise λa b=>lt a b=true
structure Uj{α:Type}(lt:α->α->Bool):Prop where
 irrefl:∀a,lt a a=false
 trans:∀a b c,lt a b=true->lt b c=true->lt a c=true
 total:∀a b,lt a b=false->lt b a=false->a=b
theorem Uj.asym{α:Type}{lt:α->α->Bool}(O:Uj lt){a b:α}(h:lt a b=true):lt b a=false:=by
 cases q:lt b a with
 |false=>rfl
 |true=>have:=O.trans a b a h q;rw[O.irrefl]at this;cases this
theorem oV{α:Type}{lt:α->α->Bool}(O:Uj lt):∀{l m:List α},dR lt l->dR lt m->(∀x,x∈l↔x∈m)->l=m
 |[],[],_,_,_=>rfl
 |[],b::m,_,_,h=>by have:=(h b).2 (by simp);cases this
 |a::l,[],_,_,h=>by have:=(h a).1 (by simp);cases this
 |a::l,b::m,hl,hm,h=>by
  have hl':=List.pairwise_cons.1 hl;have hm':=List.pairwise_cons.1 hm;have hab:a=b:=by
   have h1:=(h a).1 (by simp);have h2:=(h b).2 (by simp);rcases List.mem_cons.1 h1 with h1|h1
   ·exact h1
   ·rcases List.mem_cons.1 h2 with h2|h2
    ·exact h2.symm
    ·have:=O.asym (hl'.1 b h2);rw[hm'.1 a h1]at this;cases this
  subst hab;rw[oV O hl'.2 hm'.2 λx=>?_];constructor
  ·intro hx;rcases List.mem_cons.1 ((h x).1 (by simp[hx]))with e|h'
   ·subst e;have:=hl'.1 x hx;rw[O.irrefl]at this;cases this
   ·exact h'
  ·intro hx;rcases List.mem_cons.1 ((h x).2 (by simp[hx]))with e|h'
   ·subst e;have:=hm'.1 x hx;rw[O.irrefl]at this;cases this
   ·exact h'
theorem lT{α:Type}[DecidableEq α]{lt:α->α->Bool}(O:Uj lt):∀{l:List α},l.Pairwise (λa b=>lt b a=false)->dR lt (dG l)
 |[],_=>.nil
 |[_],_=>List.pairwise_singleton _ _
 |a::b::r,h=>by
  have h':=List.pairwise_cons.1 h;have ih:=lT O h'.2;simp only[dG];split
  ·exact ih
  ·rename_i hne;refine List.pairwise_cons.2 ⟨λx hx=>?_,ih⟩;have hx:=(Dp _).1 hx;have h1:=h'.1 b (by simp);have hab:lt a b=true:=by
    cases q:lt a b with
    |true=>rfl
    |false=>exact absurd (O.total a b q h1) hne
   rcases List.mem_cons.1 hx with rfl|hx
   ·exact hab
   ·have h2:=(List.pairwise_cons.1 h'.2).1 x hx;cases q:lt b x with
    |true=>exact O.trans _ _ _ hab q
    |false=>have:=O.total b x q h2;subst this;exact hab
theorem Nm.sto:Uj Aj:=by
 refine⟨λa=>?_,λa b c h1 h2=>?_,λa b h1 h2=>?_⟩
 ·simp[Aj]
 ·simp[Aj]at*;omega
 ·cases a;cases b;simp[Aj]at*;omega
theorem ML{α:Type}{k:Nat}{x y:α}{out:List α}:y∈mQ k x out↔y=x\/y∈out:=by
 unfold mQ;rw[List.mem_append,List.mem_cons]
 conv=>rhs;rw[<-List.take_append_drop k out,List.mem_append]
 constructor
 ·rintro(h|h|h)<;>simp[h]
 ·rintro(h|h|h)<;>simp[h]
theorem xX{α:Type}{p:α->Bool}{out:List α}:∀k,k<=out.length->(∀i (h:i<out.length),nW p out k<=i->i<k->p out[i]=true)/\(∀i (h:i<out.length),nW p out k=i+1->p out[i]=false)
 |0,_=>⟨λi _ _ h=>by omega,λi _ h=>by simp[nW]at h⟩
 |k+1,hk=>by
  have hlt:k<out.length:=by omega
  obtain⟨h1,h2⟩:=xX k (by omega) (p:=p) (out:=out);cases q:p out[k]with
  |true=>
   rw[KB hlt q];refine⟨λi hi hle hik=>?_,h2⟩;by_cases e:i=k
   ·subst e;exact q
   ·exact h1 i hi hle (by omega)
  |false=>
   have:nW p out (k+1)=k+1:=CP λi e hi=>by
    have:i=k:=(by omega);subst this;exact q
   rw[this];exact⟨λi _ h1 h2=>by omega,λi hi e=>by
    have:i=k:=(by omega);subst this;exact q⟩
section
attribute[local simp] hZ.cond Nd.d_eq nd_t nd_dr nd_td ndsD
theorem MM{l:List aJ}:dG (l.take 1)=l.take 1:=by cases l<;>simp[dG]
theorem zD{l:List aJ}(h:l.length<2):dG l=l:=by
 match l,h with
 |[],_=>rfl
 |[_],_=>rfl
theorem GI{α:Type}{a b:List α}{p i:Nat}(h:a.drop p=b.drop p)(hp:p<=i)(ha:i<a.length)(hb:i<b.length):a[i]=b[i]:=by
 have h1:=congrArg (·[i-p]?) h;simp only[List.getElem?_drop,show p+(i-p)=i by omega,List.getElem?_eq_getElem ha,List.getElem?_eq_getElem hb]at h1;exact Option.some.inj h1
theorem GJ(l:List aJ)(hl:l.length<=1000000000000):Ok Tryz.prog 102 [jS l] ⟨.own 1 (l.map .str),true⟩:=by
 refine bF Tryz.func102 rfl Tryz.ntmps102 Tryz.results102 λw0 X hp=>?_;refine aA ?_;simp;refine aD ?_;refine aD ?_;refine Bc hT hW 4 (decide (l=[])) (λ_=>none) (λ_=>⟨rfl,λ_ h=>h⟩) (by kernel_rfl) λb1 hb1=>?_;simp;refine aC ?_;simp;refine⟨λh1=>?_,λh1=>?_⟩
 ·refine aA ?_;simp;refine aF ?_;have:=hb1 h1;simp at this;simp[this]
 ·refine aE ?_;simp;refine aA ?_;simp;refine⟨by omega,?_⟩;refine aF ?_;simp
theorem Co(l:List aJ)(hl:l.length<=8000000000000):jA Tryz.prog 101 [.ow 0 0 l.length] [(0,.row false 1 (l.map .str))] [(0,.row false 1 ((dG l).map .str++List.replicate (l.length-(dG l).length) (.str [])))] (.ow 0 0 (dG l).length):=by
 refine iI Tryz.func101 rfl Tryz.ntmps101 Tryz.results101 λw0 X hp=>?_;refine aA ?_;simp;refine aD ?_;refine aA ?_;simp;refine aC ?_;simp;refine⟨λh1=>?_,λh1=>?_⟩
 ·refine aA ?_;simp;refine aF ?_;simp;refine aB hp [2] [(0,0)] ?_ ?_
  ·simp[zD (by omega:l.length<2)]
  ·simp[zD (by omega:l.length<2)]
 ·refine aE ?_;simp;refine aD ?_;refine aA ?_;simp;refine aL ?_;refine aS (ι:=Nat) (λk=>aQ [(0,.ow 0 0 l.length),(3,.d (aH k))]) (λk=>aG [(0,.row false 1 (l.map .str))]) (λk=>1<=k/\k<=l.length/\dG (l.take k)=l.take k) (λk=>l.length-k) 1 (aB hp [0,3] [(0,0)]) (⟨by omega,by omega,MM⟩) λk hi4=>?_;refine aD ?_;refine aA ?_;simp;refine aC ?_;simp;refine⟨λh4=>?_,λh4=>?_⟩
  ·refine aE ?_;simp;refine aD ?_;refine aL ?_;refine aD ?_;refine eO.rd [] [] (λ_=>none) ?_;simp[(show((k:Int)- 1).toNat=k-1 by omega),h4,(show k-1<l.length by omega)];refine⟨by omega,?_⟩;refine aC ?_;simp;refine⟨λh6=>?_,λh6=>?_⟩
   ·refine aA ?_;simp;refine⟨by omega,?_⟩;refine aD ?_;refine aA ?_;simp;refine aL ?_;refine aS (ι:=Nat×Nat×List aJ) (λ⟨q,k',r⟩=>aQ [(0,.ow 0 0 l.length),(3,.d (aH k')),(4,.ow 0 k (l.length-k)),(5,.d (aH q))]) (λ⟨q,k',r⟩=>aG [(0,.row false 1 (r.map .str))]) (λ⟨q,k',r⟩=>1<=q/\k+q<=l.length/\1<=k'/\k'+1<=k+q/\r.length=l.length/\r.take k'=dG (l.take (k+q))/\r.drop (k+q-1)=l.drop (k+q-1)) (λ⟨q,k',r⟩=>l.length-k-q) (1,k,l) (aB hp [0,3,4,5] [(0,0)]) (⟨by omega,by omega,by omega,by omega,rfl,by rw[pY (by omega) h4,if_pos h6.symm,hi4.2.2],rfl⟩) λ⟨q,k',r⟩ hi9=>?_;refine aD ?_;refine aA ?_;simp;refine aC ?_;simp;refine⟨λh9=>?_,λh9=>?_⟩
    ·refine aE ?_;simp;refine aD ?_;refine aL ?_;refine aD ?_;obtain⟨g1,g2,g3,g4,g5,g6,g7⟩:=hi9;have hq:k+q<l.length:=by omega
     have e1:r[k+q]'(by omega)=l[k+q]:=GI g7 (by omega) (by omega) hq;have e2:r[k+(q-1)]'(by omega)=l[k+(q-1)]:=GI g7 (by omega) (by omega) (by omega);refine eO.rd [] [] (λ_=>none) ?_;simp[(show((q:Int)- 1).toNat=q-1 by omega),(show k+q<r.length by omega),(show k+(q-1)<r.length by omega),e1,e2];refine⟨by omega,?_⟩;refine aC ?_;simp;refine⟨λh11=>?_,λh11=>?_⟩
     ·refine aA ?_;simp[(show k+q<r.length by omega),e1];refine⟨by omega,?_⟩;refine aM ?_;simp;refine⟨by omega,?_⟩;refine aM ?_;simp;refine⟨by omega,?_⟩;refine Ks.mk (q+1,k'+1,r.set k' l[k+q]) (aB hp [0,3,4,5] [(0,0)]) ?_ ?_
      ·have hk':k'<r.length:=(by omega);have e3:¬l[k+q-1]=l[k+q]:=λe=>h11 (by rw[<-e];congr 1;omega);dsimp only;refine⟨by omega,by omega,by omega,by omega,by simp[g5],?_,?_⟩
       ·rw[List.take_succ_eq_append_getElem (by simpa using hk'),List.getElem_set_self,List.take_set_of_le (by omega),g6,<-Nat.add_assoc,pY (by omega) hq,if_neg e3]
       ·have g8:=congrArg (List.drop 1) g7;rw[List.drop_drop,List.drop_drop,show k+q-1+1=k+q by omega]at g8;rw[show k+(q+1)- 1=k+q by omega,List.drop_set_of_lt (by omega),g8]
      ·omega
     ·refine aE ?_;simp;refine aM ?_;simp;refine⟨by omega,?_⟩;refine Ks.mk (q+1,k',r) (aB hp [0,3,4,5] [(0,0)]) ?_ ?_
      ·have e3:l[k+q-1]=l[k+q]:=by rw[h11];congr 1;omega
       dsimp only;refine⟨by omega,by omega,by omega,by omega,g5,?_,?_⟩
       ·rw[g6,<-Nat.add_assoc,pY (by omega) hq,if_pos e3]
       ·have g8:=congrArg (List.drop 1) g7;rw[List.drop_drop,List.drop_drop,show k+q-1+1=k+q by omega]at g8;rw[show k+(q+1)- 1=k+q by omega,g8]
      ·omega
    ·refine bT ?_;simp;refine aA ?_;simp;refine⟨by omega,?_⟩;refine aA ?_;simp;refine⟨by omega,?_⟩;refine aF ?_;simp;obtain⟨g1,g2,g3,g4,g5,g6,g7⟩:=hi9;have hq:k+q=l.length:=by omega
     rw[hq,List.take_length]at g6;have hkl:(dG l).length=k':=by rw[<-g6];simp;omega
     refine aB hp [2] [(0,0)] ?_ ?_
     ·simp[hkl]
     ·have hd:List.drop (k'+(l.length-k')) (List.map DV.str r)=[]:=List.drop_eq_nil_of_le (by simp;omega);simp;rw[hd,hkl,<-g6,List.map_take,List.append_nil]
   ·refine aE ?_;simp;refine aM ?_;simp;refine⟨by omega,?_⟩;refine Ks.mk (k+1) (aB hp [0,3] [(0,0)]) ?_ ?_
    ·have e6:¬l[k-1]=l[k]:=λe=>h6 e.symm;exact⟨by omega,h4,by rw[pY (by omega) h4,if_neg e6,hi4.2.2];simp⟩
    ·omega
  ·refine bT ?_;simp;refine aA ?_;simp;refine aF ?_;simp;have q:k=l.length:=by omega
   have e:=hi4.2.2;rw[q,List.take_length]at e;refine aB hp [2] [(0,0)] ?_ ?_
   ·simp[e]
   ·simp[e]
end
section
attribute[local simp] hZ.cond Nd.d_eq nd_t nd_dr nd_td ndsD aO
theorem tU(s t:aJ)(hl:s.length<=9223372036854775807)(ht:t.length<=9223372036854775807):Ok Tryz.prog 179 [.str s,.str t] ⟨.d (.bool (decide (s.take t.length=t))),true⟩:=by
 refine bF Tryz.func179 rfl Tryz.ntmps179 Tryz.results179 λw0 X hp=>?_;refine aA ?_;simp;refine aA ?_;simp;refine aF ?_;simp;rw[Bool.beq_eq_decide_eq,Bool.eq_iff_iff];simp only[Bool.and_eq_true,decide_eq_true_eq];refine⟨λh=>h.2,λh=>⟨?_,h⟩⟩;have e:=congrArg List.length h;rw[List.length_take]at e;omega
theorem lU(s t:aJ)(hl:s.length<=9223372036854775807)(ht:t.length<=9223372036854775807):Ok Tryz.prog 159 [.str s,.str t] ⟨.d (.bool (decide (s.take t.length=t))),true⟩:=by
 refine bF Tryz.func159 rfl Tryz.ntmps159 Tryz.results159 λw0 X hp=>?_;refine aA ?_;simp;refine aD ?_;have h:=tU s t hl ht;refine eO.ro hT hW (λ|7=>some<| .plain ⟨.d (.bool (decide (s.take t.length=t))),true⟩|_=>none) ?_;simp;refine⟨h,?_⟩;refine aF ?_;simp
theorem Aa(s:aJ)(c:UInt8):Ok Tryz.prog 160 [.str s,.int .u8 (c.toNat:Int)] ⟨.d (aH (qO c s)),true⟩:=by
 refine bF Tryz.func160 rfl Tryz.ntmps160 Tryz.results160 λw0 X hp=>?_;refine aA ?_;simp;refine aD ?_;have h:=vZ s c;refine eO.ro hT hW (λ|7=>some<| .plain ⟨.d (aH (qO c s)),true⟩|_=>none) ?_;simp;refine⟨h,?_⟩;refine aF ?_;simp
theorem jG(c:UInt8)(r:aJ):nextN (c::r)=if letterB c then wordN (c::r)else if c=36 then(if 0<wordN r then wordN r+1 else 0)
 else if digitB c then(if runP digitB (c::r)<=3 then runP digitB (c::r)else 0)
 else if(c::r).take 2=[60,61]\/(c::r).take 2=[61,61]then 2 else if c∈signs then 1 else 0:=rfl
theorem SX{c:UInt8}:((c.toNat:Int)=36)↔c=36:=by
 rw[<-UInt8.toNat_inj];have:(36:UInt8).toNat=36:=rfl;omega
theorem oW(c:UInt8)(r:aJ)(a b:UInt8):(c::r).take 2=[a,b]↔c=a/\r.take 1=[b]:=by simp
theorem Bz(c:UInt8):∀l:aJ,0<=qO c l↔c∈l
 |[]=>by simp[qO,cutAt]
 |d::l=>by
  have ih:=Bz c l;unfold qO at ih|-;unfold cutAt;by_cases h:d=c
  ·simp[h]
  ·rw[if_neg h];have h':¬c=d:=λe=>h e.symm;cases q:cutAt c l with
   |none=>rw[q]at ih;simp only[Option.map_none,List.mem_cons,h',false_or];exact ih
   |some q2=>rw[q]at ih;simp only[Option.map_some,List.mem_cons,h',false_or,List.length_cons];exact⟨λ_=>ih.1 (by simp),λ_=>by omega⟩
theorem Sb(c:UInt8)(r:aJ)(hl:(c::r).length<=9223372036854775807):Ok Tryz.prog 119 [.str (c::r)] ⟨.d (aH (nextN (c::r))),true⟩:=by
 refine bF Tryz.func119 rfl Tryz.ntmps119 Tryz.results119 λw0 X hp=>?_;have hr:r.length+1<=9223372036854775807:=by simpa using hl
 refine aA ?_;simp;refine aD ?_;refine aL ?_;refine aD ?_;have l1:=tB c;refine eO.ro hT hW (λ|8=>some<| .plain ⟨.d (.bool (letterB c)),true⟩|_=>none) ?_;simp;refine⟨l1,?_⟩;refine aC ?_;simp;refine⟨λh1=>?_,λh1=>?_⟩
 ·refine aD ?_;have w1:=EB (c::r) hl;refine eO.ro hT hW (λ|10=>some<| .plain ⟨.d (aH (wordN (c::r))),true⟩|_=>none) ?_;simp;refine⟨w1,?_⟩;refine aF ?_;simp;rw[jG,if_pos h1]
 ·refine aA ?_;simp;refine aC ?_;simp;refine⟨λh3=>?_,λh3=>?_⟩
  ·refine aD ?_;refine aD ?_;have w4:=EB r (by omega);refine eO.ro hT hW (λ|17=>some<| .plain ⟨.d (aH (wordN r)),true⟩|_=>none) ?_;simp;refine⟨⟨by omega,w4⟩,?_⟩;refine aA ?_;simp;refine aC ?_;simp;refine⟨λh5=>?_,λh5=>?_⟩
   ·refine aD ?_;have b6:=vR r;refine aM ?_;simp;refine⟨by omega,?_⟩;refine aF ?_;simp;rw[jG,if_neg (by simp[h1]),if_pos (SX.1 h3),if_pos h5];rfl
   ·refine aE ?_;simp;refine aA ?_;simp;refine aF ?_;simp;rw[jG,if_neg (by simp[h1]),if_pos (SX.1 h3),if_neg (by omega)];rfl
  ·refine aD ?_;have l8:=rN c;refine eO.ro hT hW (λ|25=>some<| .plain ⟨.d (.bool (digitB c)),true⟩|_=>none) ?_;simp;refine⟨l8,?_⟩;refine aC ?_;simp;refine⟨λh8=>?_,λh8=>?_⟩
   ·refine aD ?_;refine aD ?_;have w9:=PD (c::r) digitB 157 (λc=>rN c) hl;refine eO.ro hT hW (λ|27=>some<| .plain ⟨.d (aH (runP digitB (c::r))),true⟩|_=>none) ?_;simp;refine⟨w9,?_⟩;refine aA ?_;simp;refine aC ?_;simp;refine⟨λh10=>?_,λh10=>?_⟩
    ·refine aA ?_;simp;refine aF ?_;simp;rw[jG,if_neg (by simp[h1]),if_neg (λe=>h3 (SX.2 e)),if_pos h8,if_pos (by omega)]
    ·refine aE ?_;simp;refine aA ?_;simp;refine aF ?_;simp;rw[jG,if_neg (by simp[h1]),if_neg (λe=>h3 (SX.2 e)),if_pos h8,if_neg (by omega)];rfl
   ·refine aD ?_;have w13:=lU (c::r) [60,61] hl (by decide);have v13:=lU (c::r) [61,61] hl (by decide);refine eO.ro hT hW (λ|33=>some<| .plain ⟨.d (.bool (decide ((c::r).take 2=[60,61]))),true⟩|36=>some<| .plain ⟨.d (.bool (decide ((c::r).take 2=[61,61]))),true⟩|_=>none) ?_;simp;refine⟨⟨⟨by simpa using w13,λ_=>by simpa using v13⟩,λh=>Classical.not_and_iff_not_or_not.1 λq=>h q.1 q.2⟩,?_⟩;refine aC ?_;simp;refine⟨λg=>?_,λg1 g2=>?_⟩
    ·refine aA ?_;simp;refine aF ?_;simp;rw[jG,if_neg (by simp[h1]),if_neg (λe=>h3 (SX.2 e)),if_neg (by simp[h8]),if_pos (by rw[oW,oW];exact g)];rfl
    ·refine aD ?_;have w15:=Aa [40,41,123,125,61,43,45,42,60,59,46] c;refine eO.ro hT hW (λ|41=>some<| .plain ⟨.d (aH (qO c [40,41,123,125,61,43,45,42,60,59,46])),true⟩|_=>none) ?_;simp;refine⟨w15,?_⟩;refine aC ?_;simp;refine⟨λh15=>?_,λh15=>?_⟩
     ·refine aA ?_;simp;refine aF ?_;simp;rw[jG,if_neg (by simp[h1]),if_neg (λe=>h3 (SX.2 e)),if_neg (by simp[h8]),if_neg (by rw[oW,oW];rintro(⟨e1,e2⟩|⟨e1,e2⟩);exact g1 e1 e2;exact g2 e1 e2),if_pos ((Bz c signs).1 h15)];rfl
     ·refine aE ?_;simp;refine aA ?_;simp;refine aF ?_;simp;rw[jG,if_neg (by simp[h1]),if_neg (λe=>h3 (SX.2 e)),if_neg (by simp[h8]),if_neg (by rw[oW,oW];rintro(⟨e1,e2⟩|⟨e1,e2⟩);exact g1 e1 e2;exact g2 e1 e2),if_neg (λe=>by have:=(Bz c signs).2 e;unfold signs at this;omega)];rfl
end
section
attribute[local simp] hZ.cond Nd.d_eq nd_t nd_dr nd_td ndsD
theorem KN{x:Int}(h0:0<=x)(h:x<256):IntKind.u8.wrap x=x:=by
 unfold IntKind.wrap;simp[IntKind.bits,IntKind.signed];omega
theorem oX(m:Nat):itoaS (m:Int)=decS m:=by unfold itoaS;rw[if_neg (by omega)];rfl
theorem GK{m:Nat}(h:0<m):itoaS (-(m:Int))=45::decS m:=by unfold itoaS;rw[if_pos (by omega),Int.natAbs_neg];rfl
theorem Dq{n:Nat}(h:n<1000)(h1:10<=n):decS n=decS (n / 10)++decS (n%10):=by
 have h2:n%10<10:=Nat.mod_lt _ (by decide);unfold decS;rw[if_neg (by omega),if_pos h2];by_cases q:n<100
 ·rw[if_pos q,if_pos (by omega)];rfl
 ·rw[if_neg q,if_neg (by omega),if_pos (by omega),Nat.div_div_eq_div_mul];rfl
theorem KO{n:Nat}(h:n<10):decS n=[UInt8.ofNat (48+n)]:=by unfold decS;rw[if_pos h]
theorem tV(n:Int)(h1: -999<=n)(h2:n<=999)(ih:∀m:Int,0<=m->m<=999->(n<0\/m<n)->Ok Tryz.prog 91 [aH m] ⟨.d (.str (itoaS m)),true⟩):Ok Tryz.prog 91 [aH n] ⟨.d (.str (itoaS n)),true⟩:=by
 refine bF Tryz.func91 rfl Tryz.ntmps91 Tryz.results91 λw0 X hp=>?_;refine aA ?_;simp;refine aD ?_;refine aA ?_;simp;refine aC ?_;simp;refine⟨λh1=>?_,λh1=>?_⟩
 ·refine aD ?_;obtain⟨m,hm⟩:∃m:Nat,n= -(m:Int):=⟨n.natAbs,by omega⟩;obtain⟨a,ha⟩:∃a,a=m / 10:=⟨_,rfl⟩;obtain⟨b,hb⟩:∃b,b=m%10:=⟨_,rfl⟩;have e1:n.tdiv 10= -(a:Int):=by subst hm ha;rw[Int.neg_tdiv];rfl
  have e2:n.tmod 10= -(b:Int):=by subst hm hb;rw[Int.neg_tmod];rfl
  have c1:=ih (a:Int) (by omega) (by omega) (by omega);have c2:=ih (b:Int) (by omega) (by omega) (by omega);have l1:=bV (a:Int);have l2:=bV (b:Int);have z1:0- -(a:Int)=(a:Int):=by omega
  have z2:0- -(b:Int)=(b:Int):=by omega
  refine eO.ro hT hW (λ|8=>some<| .plain ⟨.d (.str (itoaS (a:Int))),true⟩|13=>some<| .plain ⟨.d (.str (itoaS (b:Int))),true⟩|_=>none) ?_;simp[e1,e2];refine⟨by(repeat' with_reducible apply And.intro)<;>first|omega|exact c1|exact c2|(simp only[List.length_cons];omega),?_⟩;refine aF ?_;simp;subst hm ha hb;rw[GK (by omega),oX,oX,Dq (n:=m) (by omega) (by omega)]
 ·refine aE ?_;simp;refine aD ?_;refine aA ?_;simp;refine aC ?_;simp;refine⟨λh3=>?_,λh3=>?_⟩
  ·refine aD ?_;obtain⟨m,hm⟩:∃m:Nat,n= -(m:Int):=⟨n.natAbs,by omega⟩;have c1:=ih (m:Int) (by omega) (by omega) (by omega);have l1:=bV (m:Int);have z1:0-n=(m:Int):=by omega
   refine eO.ro hT hW (λ|19=>some<| .plain ⟨.d (.str (itoaS (m:Int))),true⟩|_=>none) ?_;simp[z1];refine⟨by(repeat' with_reducible apply And.intro)<;>first|omega|exact c1,?_⟩;refine aF ?_;simp;subst hm;rw[GK (by omega),oX]
  ·refine aE ?_;simp;refine aD ?_;refine aA ?_;simp;refine aC ?_;simp;refine⟨λh5=>?_,λh5=>?_⟩
   ·refine aD ?_;obtain⟨m,hm⟩:∃m:Nat,n=(m:Int):=⟨n.natAbs,by omega⟩;have w1:IntKind.u8.wrap (48+n)=48+n:=KN (by omega) (by omega);refine aM ?_;simp[w1];refine⟨by(repeat' with_reducible apply And.intro)<;>first|omega|decide,?_⟩;refine aF ?_;simp;subst hm;rw[oX,KO (by omega)];rfl
   ·refine aE ?_;simp;refine aD ?_;obtain⟨m,hm⟩:∃m:Nat,n=(m:Int):=⟨n.natAbs,by omega⟩;obtain⟨a,ha⟩:∃a,a=m / 10:=⟨_,rfl⟩;obtain⟨b,hb⟩:∃b,b=m%10:=⟨_,rfl⟩;have e1:n.tdiv 10=(a:Int):=by subst hm ha;rfl
    have e2:n.tmod 10=(b:Int):=by subst hm hb;rfl
    have c1:=ih (a:Int) (by omega) (by omega) (by omega);have l1:=bV (a:Int);have w1:IntKind.u8.wrap (48+(b:Int))=48+(b:Int):=KN (by omega) (by omega);refine eO.rd [[35],[35],[35],[30],[30],[30],[30],[30],[30]] [[],[],[30],[],[],[],[],[35]] (λ|30=>some<| .plain ⟨.d (.str (itoaS (a:Int))),true⟩|_=>none) ?_;simp[e1,e2,w1];refine⟨by(repeat' with_reducible apply And.intro)<;>first|omega|exact c1|decide,?_⟩;refine aF ?_;simp;subst hm ha hb;rw[oX,oX,Dq (n:=m) (by omega) (by omega),KO (n:=m%10) (by omega)];rfl
theorem GL(n:Int)(h1: -999<=n)(h2:n<=999):Ok Tryz.prog 91 [aH n] ⟨.d (.str (itoaS n)),true⟩:=by
 have pos:∀k:Nat,k<=999->Ok Tryz.prog 91 [aH (k:Int)] ⟨.d (.str (itoaS (k:Int))),true⟩:=λk=>by
  induction k using Nat.strongRecOn with
  |ind k ih=>
   intro hk;refine tV _ (by omega) (by omega) λm h0 _ hm=>?_;obtain⟨j,rfl⟩:=Int.eq_ofNat_of_zero_le h0;exact ih j (by omega) (by omega)
 refine tV n h1 h2 λm h0 hm _=>?_;obtain⟨j,rfl⟩:=Int.eq_ofNat_of_zero_le h0;exact pos j (by omega)
end
section
attribute[local simp] hZ.cond Nd.d_eq nd_t nd_dr nd_td ndsD
theorem Jk:Ok Tryz.prog 98 [] ⟨.d (.sl tQ),true⟩:=by
 refine bF Tryz.func98 rfl Tryz.ntmps98 Tryz.results98 λw0 X hp=>?_;refine aA ?_;simp;refine aA ?_;simp;refine⟨by decide,?_⟩;refine aF ?_;simp;rfl
end
section
attribute[local simp] hZ.cond Nd.d_eq nd_t nd_dr nd_td ndsD aO
theorem BA(p:UInt8->Bool)(s:aJ)(i:Nat):firstIs p (s.drop i)=(decide (i<s.length)&&p (s[i]?.getD 0)):=by
 by_cases h:i<s.length
 ·rw[List.drop_eq_getElem_cons h,List.getElem?_eq_getElem h];simp[firstIs,h]
 ·rw[List.drop_eq_nil_of_le (by omega)];simp[firstIs,h]
theorem Jl(s:aJ)(i:Nat)(hl:s.length<=9223372036854775807):Ok Tryz.prog 92 [.str s,aH i] ⟨.d (.bool (firstIs letterB (s.drop i))),true⟩:=by
 refine bF Tryz.func92 rfl Tryz.ntmps92 Tryz.results92 λw0 X hp=>?_;refine aA ?_;simp;refine aA ?_;simp;refine⟨λh _=>h,?_⟩;refine aF ?_;simp;rw[BA,uJ];simp[Bool.and_assoc]
theorem Dr(s:aJ)(i:Nat)(hl:s.length<=9223372036854775807):Ok Tryz.prog 93 [.str s,aH i] ⟨.d (.bool (firstIs digitB (s.drop i))),true⟩:=by
 refine bF Tryz.func93 rfl Tryz.ntmps93 Tryz.results93 λw0 X hp=>?_;refine aA ?_;simp;refine aA ?_;simp;refine⟨λh _=>h,?_⟩;refine aF ?_;simp;rw[BA,xP];simp[Bool.and_assoc]
def rQ:List aJ:=[[97,99,113,117,105,114,101],[97,108,108,111,99],[99,97,108,108],[99,104,97,110],[99,104,101,99,107],[100,114,97,119],[101,108,115,101],[102,105,108,101],[103,111],[105,102],[107,105,110,100],[108,111,99,107],[110,111,119],[112,114,111,99],[114,101,97,100],[114,101,99],[114,101,99,118],[114,101,108,101,97,115,101],[115,101,110,100],[115,108,101,101,112],[116,101,115,116],[118,97,114],[119,104,105,108,101],[119,114,105,116,101]]
theorem EM(c:UInt8)(r:aJ):isNameB (c::r)=(letterB c&& !decide ((c::r)∈rQ)):=by
 have h1:∀x∈rQ,reservedB x=true:=by decide
 have h2:∀x∈sElse::sKind::wordsL,x≠[]->x∈rQ:=by decide
 have e:reservedB (c::r)=decide ((c::r)∈rQ):=by
  rw[Bool.eq_iff_iff,decide_eq_true_eq];refine⟨λh=>h2 _ ?_ (by simp),h1 _⟩;simp only[reservedB,Bool.or_eq_true,decide_eq_true_eq]at h;simp only[List.mem_cons];rcases h with(h|h)|h
  ·exact .inl h
  ·exact .inr (.inl h)
  ·exact .inr (.inr h)
 show(letterB c&& !reservedB (c::r))=_;rw[e]
theorem BB(l:List aJ)(w:aJ):Ok Tryz.prog 24 [jS l,.str w] ⟨.d (.bool (decide (w∈l))),true⟩:=by
 refine bF Tryz.func24 rfl Tryz.ntmps24 Tryz.results24 λw0 X hp=>?_;refine eO.len (t:=0) rfl λhlen=>?_;simp at hlen;refine aA ?_;simp;refine aD ?_;refine aA ?_;simp;refine aL ?_;refine aS (ι:=Nat) (λi=>aQ [(0,.d (jS l)),(1,.d (.str w)),(5,.d (aH i))]) (λi=>aG []) (λi=>i<=l.length/\w∉l.take i) (λi=>l.length-i) 0 (aB hp [0,1,5] []) (⟨Nat.zero_le _,by simp⟩) λi hi2=>?_;refine aD ?_;refine aA ?_;simp;refine aC ?_;simp;refine⟨λh2=>?_,λh2=>?_⟩
 ·refine aE ?_;simp;refine aD ?_;refine aL ?_;refine aD ?_;have hi:i<l.length:=by omega
  refine aM ?_;simp[hi];refine aC ?_;simp;refine⟨λh4=>?_,λh4=>?_⟩
  ·refine aA ?_;simp;refine aF ?_;simp;rw[<-h4];exact(List.getElem_mem hi)
  ·refine aE ?_;simp;refine aM ?_;simp;refine⟨by omega,?_⟩;refine Ks.mk (i+1) (aB hp [0,1,5] []) ?_ ?_
   ·refine⟨by omega,?_⟩;have hi:i<l.length:=by omega
    rw[<-List.take_append_getElem hi];simp only[List.mem_append,List.mem_singleton,not_or];exact⟨hi2.2,λe=>h4 e.symm⟩
   ·omega
 ·refine bT ?_;simp;refine aA ?_;simp;refine aF ?_;simp;have e:=hi2.2;rw[List.take_of_length_le (by omega)]at e;exact e
theorem MN:Ok Tryz.prog 202 [] ⟨.d (jS rQ),true⟩:=by
 refine bF Tryz.func202 rfl Tryz.ntmps202 Tryz.results202 λw0 X hp=>?_;refine aA ?_;simp;refine aA ?_;simp;refine⟨by decide,?_⟩;refine aF ?_;simp;rfl
theorem Jm(s:aJ)(hl:s.length<=9223372036854775807):Ok Tryz.prog 171 [.str s] ⟨.d (.bool (isNameB s)),true⟩:=by
 refine bF Tryz.func171 rfl Tryz.ntmps171 Tryz.results171 λw0 X hp=>?_;refine aA ?_;simp;refine aD ?_;have h1:=Jl s 0 hl;have h2:=MN;have h3:=BB rQ s;refine eO.ro hT hW (λ|4=>some<| .plain ⟨.d (.bool (firstIs letterB s)),true⟩|6=>some<| .plain ⟨.d (jS rQ),true⟩|8=>some<| .plain ⟨.d (.bool (decide (s∈rQ))),true⟩|_=>none) ?_;simp;refine⟨⟨⟨by simpa using h1,λ_=>h2⟩,λ_=>h3⟩,?_⟩;refine aF ?_;simp;cases s with
 |nil=>rfl
 |cons c r=>rw[EM];rfl
end
section
attribute[local simp] hZ.cond Nd.d_eq nd_t nd_dr nd_td ndsD aO
theorem Jn(c:UInt8):IntKind.i64.wrap (c.toNat:Int)=c.toNat:=by
 have:=c.toNat_lt;unfold IntKind.wrap;simp[IntKind.bits,IntKind.signed];split<;>omega
theorem Dt:∀s:aJ,s.length<=3-> -100000<=valS s/\valS s<=100000
 |[],_=>by simp[valS]
 |[a],_=>by have:=a.toNat_lt;simp only[valS,List.foldl_cons,List.foldl_nil];omega
 |[a,b],_=>by have:=a.toNat_lt;have:=b.toNat_lt;simp only[valS,List.foldl_cons,List.foldl_nil];omega
 |[a,b,c],_=>by have:=a.toNat_lt;have:=b.toNat_lt;have:=c.toNat_lt;simp only[valS,List.foldl_cons,List.foldl_nil];omega
 |_::_::_::_::_,h=>by simp at h
theorem PV{s:aJ}{k:Nat}(h:k<s.length):valS (s.take (k+1))=10*valS (s.take k)+(((s[k]?.getD 0).toNat:Int)- 48):=by
 rw[<-List.take_append_getElem h,List.getElem?_eq_getElem h];unfold valS;rw[List.foldl_append];rfl
theorem Sc:valS []=0:=rfl
attribute[local simp] Sc
theorem MO(s:aJ)(hl:s.length<=3):Ok Tryz.prog 173 [.str s] ⟨.d (aH (valS s)),true⟩:=by
 refine bF Tryz.func173 rfl Tryz.ntmps173 Tryz.results173 λw0 X hp=>?_;refine aA ?_;simp;refine aA ?_;simp;refine aD ?_;refine aA ?_;simp;refine aL ?_;refine aS (ι:=Nat) (λi=>aQ [(0,.d (.str s)),(3,.d (aH (valS (s.take i)))),(4,.d (aH i))]) (λi=>aG []) (λi=>i<=s.length) (λi=>s.length-i) 0 (aB hp [0,3,4] []) ((Nat.zero_le _)) λi hi3=>?_;refine aD ?_;refine aA ?_;simp;refine aC ?_;simp;refine⟨λh3=>?_,λh3=>?_⟩
 ·refine aE ?_;simp;refine aD ?_;refine aL ?_;have hk:i<s.length:=by omega
  have hv:=PV hk;have b1:=Dt (s.take i) (by rw[List.length_take];omega);have b2:=Dt (s.take (i+1)) (by rw[List.length_take];omega);have b3:=(s[i]?.getD 0).toNat_lt;have hw:=Jn (s[i]?.getD 0);refine aM ?_;simp[hw];refine⟨⟨⟨⟨by omega,by omega⟩,by omega⟩,by omega⟩,?_⟩;refine aM ?_;simp;refine⟨by omega,?_⟩;refine Ks.mk (i+1) (aB hp [0,3,4] [] (by simp[hv,Int.add_sub_assoc])) ?_ ?_
  ·omega
  ·omega
 ·refine bT ?_;simp;refine aA ?_;simp;refine aF ?_;simp;rw[List.take_of_length_le (by omega)]
end
section
attribute[local simp] hZ.cond Nd.d_eq nd_t nd_dr nd_td ndsD aO
theorem qA:∀(f:Nat) (s:aJ) (i:Int),s.length<=f->scanF f s i=scanF s.length s i
 |0,s,i,h=>by
  have:s=[]:=List.eq_nil_of_length_eq_zero (by omega);subst this;rfl
 |f+1,[],i,_=>by simp[scanF]
 |f+1,c::r,i,h=>by
  have e1:=qA f r (i+1) (by simpa using h);simp only[List.length_cons,scanF];by_cases q:c=32\/c=10
  ·rw[if_pos q,if_pos q,e1]
  ·rw[if_neg q,if_neg q];by_cases z:nextN (c::r)=0
   ·rw[if_pos z,if_pos z]
   ·rw[if_neg z,if_neg z];have hl:((c::r).drop (nextN (c::r))).length<=r.length:=by rw[List.length_drop,List.length_cons];omega
    have h':r.length<=f:=by simpa using h
    have e2:=qA f ((c::r).drop (nextN (c::r))) (i+nextN (c::r)) (by omega);have e3:=qA r.length ((c::r).drop (nextN (c::r))) (i+nextN (c::r)) hl;rw[e2,e3]
termination_by f _ _ _=>f
def nS(s:aJ)(k:Nat):List Tk×Int:=scanF (s.drop k).length (s.drop k) k
theorem MP{s:aJ}{k:Nat}(h:s.length<=k):nS s k=([],(k:Int)):=by
 unfold nS;rw[List.drop_eq_nil_of_le h];rfl
theorem GM{s:aJ}{k:Nat}(h:k<s.length)(hc:s[k]=32\/s[k]=10):nS s k=nS s (k+1):=by
 unfold nS;rw[List.drop_eq_getElem_cons h,List.length_cons,scanF,if_pos hc];rfl
theorem Jo{s:aJ}{k:Nat}(h:k<s.length)(hc:¬(s[k]=32\/s[k]=10))(hn:nextN (s.drop k)=0):nS s k=([],(k:Int)):=by
 unfold nS;rw[List.drop_eq_getElem_cons h]at hn|-;rw[List.length_cons,scanF,if_neg hc,if_pos hn]
theorem MQ{s:aJ}{k:Nat}(h:k<s.length)(hc:¬(s[k]=32\/s[k]=10))(hn:nextN (s.drop k)≠0):
 nS s k=(⟨(s.drop k).take (nextN (s.drop k)),k⟩::(nS s (k+nextN (s.drop k))).1,(nS s (k+nextN (s.drop k))).2):=by
 have hl:=Bg (s.drop k);have e:(s.drop k).drop (nextN (s.drop k))=s.drop (k+nextN (s.drop k)):=by rw[List.drop_drop]
 unfold nS;rw[<-e];generalize hm:nextN (s.drop k)=m at hn hl e|-;rw[List.drop_eq_getElem_cons h]at hm hl|-;rw[List.length_cons,scanF,if_neg hc,if_neg (by rw[hm];exact hn),hm];rw[qA _ _ _ (by rw[List.length_drop,List.length_cons];omega)]
 push_cast
 rfl
theorem SY{c:UInt8}{n:Nat}(hn:n<256):((c.toNat:Int)=n)↔c=UInt8.ofNat n:=by
 rw[<-UInt8.toNat_inj];have:(UInt8.ofNat n).toNat=n:=by simp[UInt8.toNat_ofNat'];omega
 omega
theorem Du{s:aJ}{k:Nat}(hk:k<s.length):(((s[k]?.getD 0).toNat:Int)=32\/((s[k]?.getD 0).toNat:Int)=10)↔(s[k]=32\/s[k]=10):=by
 rw[List.getElem?_eq_getElem hk,Option.getD_some];have e1:=SY (c:=s[k]) (n:=32) (by decide);have e2:=SY (c:=s[k]) (n:=10) (by decide);exact⟨λq=>q.imp e1.1 e2.1,λq=>q.imp e1.2 e2.2⟩
theorem KP(s:aJ)(k n:Nat):List.drop k (List.take ((k:Int)+(n:Int)).toNat s)=List.take n (List.drop k s):=by
 rw[show((k:Int)+(n:Int)).toNat=k+n by omega,List.drop_take,show k+n-k=n by omega]
structure WI where
 k:Nat
 L:List Tk
 deriving Inhabited
theorem PW(s:aJ)(hl:s.length<=1000000000):Ok Tryz.prog 72 [.str s] ⟨.tup [.own 2 ((scanS s).1.map Tk.d),.d (aH (scanS s).2)],true⟩:=by
 refine Ok.two Tryz.func72 (by kernel_rfl) (c:=_) rfl Tryz.ntmps72 (by simp) Tryz.results72 rfl λw0 X hp=>?_;refine aA ?_;simp;refine eO.scope ?_;refine aA ?_;simp;refine aA ?_;simp;refine aD ?_;refine eO.label ?_;simp;refine aD ?_;refine aL ?_;refine aS (ι:=WI) (λ⟨k,L⟩=>aQ [(0,.d (.str s)),(4,.ow 4 0 L.length),(5,.d (aH k))]) (λ⟨k,L⟩=>aG [(4,.row false 2 (L.map Tk.d))]) (λ⟨k,L⟩=>L.length<=k/\k<=s.length/\scanS s=(L++(nS s k).1,(nS s k).2)) (λ⟨k,L⟩=>s.length-k) ⟨0,[]⟩ (aB hp [0,4,5] [(4,4)]) (⟨Nat.le_refl _,Nat.zero_le _,by simp[nS,scanS]⟩) λ⟨k,L⟩ hi3=>?_;refine aD ?_;refine aA ?_;simp;refine aC ?_;simp;refine⟨λh3=>?_,λh3=>?_⟩
 ·refine aE ?_;simp;refine aL ?_;refine aD ?_;refine aD ?_;have hk:k<s.length:=by omega
  refine aM ?_;simp;refine⟨hk,?_⟩;refine aL ?_;refine aZ (ι:=BC) (λ⟨b⟩=>aQ [(0,.d (.str s)),(4,.ow 4 0 L.length),(5,.d (aH k)),(14,.d (.bool b))]) (λ⟨b⟩=>aG [(4,.row false 2 (L.map Tk.d))]) (λ⟨b⟩=>b=true↔(((s[k]?.getD 0).toNat:Int)=32\/((s[k]?.getD 0).toNat:Int)=10)) ?_ λ⟨b⟩ hc7=>?_
  ·refine aA ?_;simp;refine aC ?_;simp;refine⟨λh5=>?_,λh5=>?_⟩
   ·refine aE ?_;simp;refine RJ.mk ⟨decide (((s[k]?.getD 0).toNat:Int)=32)⟩ (aB hp [0,4,5,14] [(4,4)]) ?_;simp[h5]
   ·refine aM ?_;simp;refine RJ.mk ⟨decide (((s[k]?.getD 0).toNat:Int)=10)⟩ (aB hp [0,4,5,14] [(4,4)]) ?_;simp only[decide_eq_true_eq];omega
  ·refine aC ?_;simp;refine⟨λh7=>?_,λh7=>?_⟩
   ·have q7:=(Du hk).1 (hc7.1 h7);refine aA ?_;simp;refine⟨by omega,?_⟩;refine bT ?_;simp;refine Ks.mk ⟨k+1,L⟩ (aB hp [0,4,5] [(4,4)]) ?_ ?_
    ·refine⟨Nat.le_succ_of_le hi3.1,hk,?_⟩;rw[hi3.2.2,GM hk q7]
    ·show s.length-(k+1)<s.length-k;omega
   ·have q7:¬(s[k]=32\/s[k]=10):=λq=>by simp[hc7.2 ((Du hk).2 q)]at h7
    refine aE ?_;simp;refine aD ?_;have hn:=Sb s[k] (s.drop (k+1)) (by simp;omega);rw[<-List.drop_eq_getElem_cons hk]at hn;refine eO.ro hT hW (λ|22=>some<| .plain ⟨.d (aH (nextN (s.drop k))),true⟩|_=>none) ?_;simp;refine⟨⟨by omega,hn⟩,?_⟩;refine aD ?_;refine aA ?_;simp;refine aC ?_;simp;refine⟨λh9=>?_,λh9=>?_⟩
    ·refine bT ?_;simp;refine aA ?_;simp;refine aF ?_;simp;have e:=hi3.2.2;rw[Jo hk q7 h9]at e;rw[e];exact⟨⟨by simp,λa _ c hc=>by simp[Tk.d,aI]at hc;rcases hc with rfl|rfl<;>rfl⟩,rfl⟩
    ·refine aE ?_;simp;refine aD ?_;have hnl:=Bg (s.drop k);rw[List.length_drop]at hnl;refine aM ?_;simp;refine⟨⟨⟨⟨by omega,by omega⟩,by omega,by omega⟩,by omega,by omega⟩,?_⟩;refine aM ?_;simp;refine⟨by omega,?_⟩;refine Ks.mk ⟨k+nextN (s.drop k),L++[⟨(s.drop k).take (nextN (s.drop k)),k⟩]⟩ (aB hp [0,4,5] [(35,4)] (hH:=by simp[Tk.d,KP])) ?_ ?_
     ·refine⟨?_,?_,?_⟩
      ·show(L++[_]).length<=k+nextN (s.drop k);rw[List.length_append,List.length_singleton];omega
      ·show k+nextN (s.drop k)<=s.length;omega
      ·rw[hi3.2.2,MQ hk q7 h9];simp
     ·show s.length-(k+nextN (s.drop k))<s.length-k;omega
 ·refine bT ?_;simp;refine aA ?_;simp;refine aF ?_;simp;have e:=hi3.2.2;rw[MP h3]at e;rw[e];exact⟨⟨by simp,λa _ c hc=>by simp[Tk.d,aI]at hc;rcases hc with rfl|rfl<;>rfl⟩,rfl⟩
theorem Sd(s:aJ)(hl:s.length<=1000000000):Ok Tryz.prog 72 [.str s] ⟨.tup [.d (.sl ((scanS s).1.map Tk.d)),.d (aH (scanS s).2)],true⟩:=Mf (PW s hl)
end
section
attribute[local simp] hZ.cond Nd.d_eq nd_t nd_dr nd_td ndsD aO bH
def jQ(l:List Tk):DV:=.sl (l.map Tk.d)
theorem Vh:∀t:Tk,(aI t.d).length=2:=λ_=>rfl
def cS(p:PS):List (Nat×aP):=[(0,.box false [.d (jQ p.l),.d (aH p.e)])]
attribute[local simp] jQ cS
theorem cI(c:Prop)[Decidable c](A B:aP)(x:Nat):bI (λx=>if x=0 then A else B) (if c then []else [(0,A)]) x=if x=0 then A else B:=by
 by_cases h:c<;>by_cases q:x=0<;>simp[h,q,bI,bR]
attribute[local simp] cI
theorem xY{p:PS}(h:¬p.e=0\/p.l=[]):p.peek=[]:=by
 unfold PS.peek;by_cases q:p.e=0
 ·rcases h with h|h
  ·exact absurd q h
  ·rw[if_neg (by simpa using q),h]
 ·rw[if_pos q]
theorem Dv{p:PS}{t:Tk}{r:List Tk}(h:p.e=0)(hl:p.l=t::r):p.peek=t.text:=by
 unfold PS.peek;rw[if_neg (by simpa using h),hl]
theorem dO{p:PS}{s:aJ}:p.is s=true↔s≠[]/\p.peek=s:=by simp[PS.is]
theorem bQ{p:PS}{s:aJ}(h:p.is s=true):p.took s=p.skip:=if_pos h
theorem fB{p:PS}{s:aJ}(h:¬p.is s=true):p.took s=p:=if_neg h
theorem jH(p:PS):jA Tryz.prog 121 [.bx 0 0] (cS p) (cS p) (.d (.str p.peek)):=by
 unfold cS;refine iI Tryz.func121 rfl Tryz.ntmps121 Tryz.results121 λw0 X hp=>?_;refine aA ?_;simp;refine aD ?_;refine aA ?_;simp;refine aC ?_;simp;refine⟨λg=>?_,λg1 g2=>?_⟩
 ·refine aA ?_;simp;refine aF ?_;simp;exact aB hp [2] [(0,0)] (by simp[xY g])
 ·refine aE ?_;simp;refine aD ?_;obtain⟨t,r,htr⟩:=List.exists_cons_of_ne_nil g2;refine aM ?_;simp[htr,Tk.d];refine aF ?_;simp;exact aB hp [2] [(0,0)] (by simp[Dv g1 htr]) (by simp[htr])
theorem tG(p:PS)(e:Int):jA Tryz.prog 122 [.bx 0 0,.d (aH e)] (cS p) (cS (p.fail e)) (.tup []):=by
 unfold cS;refine pU Tryz.func122 rfl Tryz.ntmps122 Tryz.results122 λw0 X hp=>?_;refine aA ?_;simp;refine aC ?_;simp;refine⟨λh0=>?_,λh0=>?_⟩
 ·refine aM ?_;simp;exact aB hp [] [(0,0)] (hH:=by simp[PS.fail,h0])
 ·refine aE ?_;simp;exact aB hp [] [(0,0)] (hH:=by simp[PS.fail,h0])
theorem gP(p:PS)(s:aJ):jA Tryz.prog 123 [.bx 0 0,.d (.str s)] (cS p) (cS (p.took s)) (.d (.bool (p.is s))):=by
 unfold cS;refine iI Tryz.func123 rfl Tryz.ntmps123 Tryz.results123 λw0 X hp=>?_;refine aA ?_;simp;refine aD ?_;refine aX hT hW (λ|9=>some (.gen ⟨[(0,0)],[],[],cS p,.d (.str p.peek)⟩)|_=>none) ?_;simp;refine⟨λ_=>jH p,?_⟩;refine aC ?_;simp;refine⟨λg=>?_,λg1 g2=>?_⟩
 ·refine aA ?_;simp;refine aF ?_;simp;have hn:¬p.is s=true:=λq=>by
   obtain⟨q1,q2⟩:=dO.1 q;rcases g with g|g
   ·exact q1 g
   ·exact g q2
  exact aB hp [4] [(0,0)] (by simp[hn]) (by simp[fB hn])
 ·refine aE ?_;simp;refine aD ?_;have hs:p.is s=true:=dO.2 ⟨g1,by simpa using g2⟩;have hl:=eS hs;refine aM ?_;simp;refine⟨⟨by omega,λt _=>Vh t⟩,?_⟩;refine aA ?_;simp;refine aF ?_;simp;exact aB hp [4] [(0,0)] (by simp[hs]) (by simp[bQ hs,PS.skip])
theorem EN{p:PS}{s:aJ}(h:p.is s=true):p.need s=p.took s:=by unfold PS.need PS.took;rw[if_pos h,if_pos h]
theorem GN{p:PS}{s:aJ}(h:p.is s=false):p.need s=(p.took s).fail 2:=by
 have h':¬p.is s=true:=by simp[h]
 rw[fB h'];unfold PS.need;rw[if_neg h']
theorem qB{p:PS}(h:isNameB p.peek=true):nameP p=(p.peek,p.took p.peek):=by
 have:p.is p.peek=true:=dO.2 ⟨λe=>(by rw[e]at h;cases h),rfl⟩;rw[bQ this];unfold nameP;rw[if_pos h]
theorem mY{p:PS}(h:isNameB p.peek=false):nameP p=([],p.fail 2):=by unfold nameP;rw[if_neg (by simp[h])]
theorem iD(p:PS)(s:aJ):jA Tryz.prog 126 [.bx 0 0,.d (.str s)] (cS p) (cS (p.need s)) (.tup []):=by
 unfold cS;refine pU Tryz.func126 rfl Tryz.ntmps126 Tryz.results126 λw0 X hp=>?_;refine aX hT hW (λ|6=>some (.gen ⟨[(0,0)],[],[],cS (p.took s),.d (.bool (p.is s))⟩)|_=>none) ?_;simp;refine⟨gP p s,?_⟩;refine aC ?_;simp;refine⟨λh0=>?_,λh0=>?_⟩
 ·have en:=GN h0;refine eO.ro hT hW (λ|9=>some (.gen ⟨[(0,0)],[],[],cS ((p.took s).fail 2),.tup []⟩)|_=>none) ?_;simp;refine⟨tG (p.took s) 2,?_⟩;exact aB hp [] [(0,0)] (hH:=by simp[en])
 ·have en:=EN h0;refine aE ?_;simp;exact aB hp [] [(0,0)] (hH:=by simp[en])
theorem wG(p:PS):jA Tryz.prog 124 [.bx 0 0] (cS p) (cS (nameP p).2) (.d (.str (nameP p).1)):=by
 unfold cS;refine iI Tryz.func124 rfl Tryz.ntmps124 Tryz.results124 λw0 X hp=>?_;refine aA ?_;simp;refine aX hT hW (λ|5=>some (.gen ⟨[(0,0)],[],[],cS p,.d (.str p.peek)⟩)|_=>none) ?_;simp;refine⟨jH p,?_⟩;refine aD ?_;refine aX hT hW (λ|7=>some<| .plain ⟨.d (.bool (isNameB p.peek)),true⟩|_=>none) ?_;simp;refine⟨Di p.peek,?_⟩;refine aC ?_;simp;refine⟨λh2=>?_,λh2=>?_⟩
 ·refine aX hT hW (λ|10=>some (.gen ⟨[(0,0)],[],[],cS (p.fail 2),.tup []⟩)|_=>none) ?_;simp;refine⟨tG p 2,?_⟩;refine aA ?_;simp;refine aF ?_;simp;exact aB hp [2] [(0,0)] (by simp[mY h2]) (by simp[mY h2])
 ·refine aE ?_;simp;refine aX hT hW (λ|13=>some (.gen ⟨[(0,0)],[],[],cS (p.took p.peek),.d (.bool (p.is p.peek))⟩)|_=>none) ?_;simp;refine⟨gP p p.peek,?_⟩;refine aA ?_;simp;refine aF ?_;simp;exact aB hp [2] [(0,0)] (by simp[qB h2]) (by simp[qB h2])
end
section
attribute[local simp] hZ.cond Nd.d_eq nd_t nd_dr nd_td ndsD aO
def Tk.r(t:Tk):DV:=.agg [aH t.at_,aH (t.at_+t.text.length)]
def WJ(s:aJ)(t:Tk):Prop:=∃a:Nat,t.at_=a/\a+t.text.length<=s.length/\(s.drop a).take t.text.length=t.text
end
end Go.Eng
namespace Go.Proofs
open Go.Shelf
def Tryz.atoiLay_ren:Go.Shelf.Ren:=⟨λ|172=>163|244=>186|245=>187|247=>210|279=>211|280=>212|281=>213|282=>214|287=>228|316=>229|171=>168|205=>230|321=>239|322=>240|243=>198|246=>217|283=>232|284=>233|285=>234|286=>235|129=>116|317=>242|318=>243|319=>244|320=>245|337=>247|338=>248|n=>n,λ|9=>9|3=>3|75=>187|76=>188|4=>4|5=>5|167=>204|37=>142|0=>0|85=>205|2=>2|168=>207|53=>165|175=>221|46=>107|210=>225|127=>232|145=>235|143=>233|21=>21|171=>227|173=>229|212=>237|51=>163|20=>20|213=>238|232=>239|233=>240|80=>148|n=>n,λ|15=>4|16=>5|17=>6|18=>7|19=>8|n=>n⟩
theorem Tryz.atoiLay:Go.Proofs.Lays.n172 Tryz.prog Tryz.atoiLay_ren:={
 mixed:=by kernel_rfl,
 f129:=Tryz.func116.trans (congrArg some (by kernel_rfl)),
 f171:=Tryz.func168.trans (congrArg some (by kernel_rfl)),
 f172:=Tryz.func163.trans (congrArg some (by kernel_rfl)),
 f205:=Tryz.func230.trans (congrArg some (by kernel_rfl)),
 f243:=Tryz.func198.trans (congrArg some (by kernel_rfl)),
 f244:=Tryz.func186.trans (congrArg some (by kernel_rfl)),
 f245:=Tryz.func187.trans (congrArg some (by kernel_rfl)),
 f246:=Tryz.func217.trans (congrArg some (by kernel_rfl)),
 f247:=Tryz.func210.trans (congrArg some (by kernel_rfl)),
 f279:=Tryz.func211.trans (congrArg some (by kernel_rfl)),
 f280:=Tryz.func212.trans (congrArg some (by kernel_rfl)),
 f281:=Tryz.func213.trans (congrArg some (by kernel_rfl)),
 f282:=Tryz.func214.trans (congrArg some (by kernel_rfl)),
 f283:=Tryz.func232.trans (congrArg some (by kernel_rfl)),
 f284:=Tryz.func233.trans (congrArg some (by kernel_rfl)),
 f285:=Tryz.func234.trans (congrArg some (by kernel_rfl)),
 f286:=Tryz.func235.trans (congrArg some (by kernel_rfl)),
 f287:=Tryz.func228.trans (congrArg some (by kernel_rfl)),
 f316:=Tryz.func229.trans (congrArg some (by kernel_rfl)),
 f317:=Tryz.func242.trans (congrArg some (by kernel_rfl)),
 f318:=Tryz.func243.trans (congrArg some (by kernel_rfl)),
 f319:=Tryz.func244.trans (congrArg some (by kernel_rfl)),
 f320:=Tryz.func245.trans (congrArg some (by kernel_rfl)),
 f321:=Tryz.func239.trans (congrArg some (by kernel_rfl)),
 f322:=Tryz.func240.trans (congrArg some (by kernel_rfl)),
 f337:=Tryz.func247.trans (congrArg some (by kernel_rfl)),
 f338:=Tryz.func248.trans (congrArg some (by kernel_rfl)),
 t0:=Tryz.underlying0,
 a0:=Tryz.isAgg0,
 z0:=Tryz.sizeOf0,
 v0:=Tryz.zeroValue0,
 t2:=Tryz.underlying2,
 a2:=Tryz.isAgg2,
 z2:=Tryz.sizeOf2,
 v2:=Tryz.zeroValue2,
 t3:=Tryz.underlying3,
 a3:=Tryz.isAgg3,
 z3:=Tryz.sizeOf3,
 v3:=Tryz.zeroValue3,
 t4:=Tryz.underlying4,
 a4:=Tryz.isAgg4,
 z4:=Tryz.sizeOf4,
 v4:=Tryz.zeroValue4,
 t5:=Tryz.underlying5,
 a5:=Tryz.isAgg5,
 z5:=Tryz.sizeOf5,
 v5:=Tryz.zeroValue5,
 t9:=Tryz.underlying9,
 a9:=Tryz.isAgg9,
 z9:=Tryz.sizeOf9,
 v9:=Tryz.zeroValue9,
 t20:=Tryz.underlying20,
 a20:=Tryz.isAgg20,
 z20:=Tryz.sizeOf20,
 v20:=Tryz.zeroValue20,
 t21:=Tryz.underlying21,
 a21:=Tryz.isAgg21,
 z21:=Tryz.sizeOf21,
 v21:=Tryz.zeroValue21,
 t37:=Tryz.underlying142,
 a37:=Tryz.isAgg142,
 z37:=Tryz.sizeOf142,
 v37:=Tryz.zeroValue142,
 t46:=Tryz.underlying107,
 a46:=Tryz.isAgg107,
 z46:=Tryz.sizeOf107,
 v46:=Tryz.zeroValue107,
 t51:=Tryz.underlying163,
 a51:=Tryz.isAgg163,
 z51:=Tryz.sizeOf163,
 v51:=Tryz.zeroValue163,
 t53:=Tryz.underlying165,
 a53:=Tryz.isAgg165,
 z53:=Tryz.sizeOf165,
 v53:=Tryz.zeroValue165,
 t75:=Tryz.underlying187,
 a75:=Tryz.isAgg187,
 z75:=Tryz.sizeOf187,
 v75:=Tryz.zeroValue187,
 t76:=Tryz.underlying188,
 a76:=Tryz.isAgg188,
 z76:=Tryz.sizeOf188,
 v76:=Tryz.zeroValue188,
 t85:=Tryz.underlying205,
 a85:=Tryz.isAgg205,
 z85:=Tryz.sizeOf205,
 v85:=Tryz.zeroValue205,
 t127:=Tryz.underlying232,
 a127:=Tryz.isAgg232,
 z127:=Tryz.sizeOf232,
 v127:=Tryz.zeroValue232,
 t143:=Tryz.underlying233,
 a143:=Tryz.isAgg233,
 z143:=Tryz.sizeOf233,
 v143:=Tryz.zeroValue233,
 t145:=Tryz.underlying235,
 a145:=Tryz.isAgg235,
 z145:=Tryz.sizeOf235,
 v145:=Tryz.zeroValue235,
 t167:=Tryz.underlying204,
 a167:=Tryz.isAgg204,
 z167:=Tryz.sizeOf204,
 v167:=Tryz.zeroValue204,
 t168:=Tryz.underlying207,
 a168:=Tryz.isAgg207,
 z168:=Tryz.sizeOf207,
 v168:=Tryz.zeroValue207,
 t171:=Tryz.underlying227,
 a171:=Tryz.isAgg227,
 z171:=Tryz.sizeOf227,
 v171:=Tryz.zeroValue227,
 t173:=Tryz.underlying229,
 a173:=Tryz.isAgg229,
 z173:=Tryz.sizeOf229,
 v173:=Tryz.zeroValue229,
 t175:=Tryz.underlying221,
 a175:=Tryz.isAgg221,
 z175:=Tryz.sizeOf221,
 v175:=Tryz.zeroValue221,
 t210:=Tryz.underlying225,
 a210:=Tryz.isAgg225,
 z210:=Tryz.sizeOf225,
 v210:=Tryz.zeroValue225,
 t212:=Tryz.underlying237,
 a212:=Tryz.isAgg237,
 z212:=Tryz.sizeOf237,
 v212:=Tryz.zeroValue237,
 t213:=Tryz.underlying238,
 a213:=Tryz.isAgg238,
 z213:=Tryz.sizeOf238,
 t232:=Tryz.underlying239,
 a232:=Tryz.isAgg239,
 z232:=Tryz.sizeOf239,
 v232:=Tryz.zeroValue239,
 t233:=Tryz.underlying240,
 a233:=Tryz.isAgg240,
 z233:=Tryz.sizeOf240,
 v233:=Tryz.zeroValue240,
 g15:=by kernel_rfl,
 g16:=by kernel_rfl,
 g17:=by kernel_rfl,
 g18:=by kernel_rfl,
 g19:=by kernel_rfl}
end Go.Proofs
