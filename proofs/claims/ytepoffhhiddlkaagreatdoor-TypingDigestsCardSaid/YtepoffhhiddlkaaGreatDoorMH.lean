/- Part 8 of the proof. No condition. -/
import Derived.Test.YtepoffhhiddlkaaGreatDoorMG
import Derived.Shelf.Strconv.Atoi
import Derived.Test.YtepoffhhiddlkaaGreatDoorProg
open Go.Proofs
open Go.Proofs.Tryz
set_option linter.unusedVariables false
set_option linter.unusedSimpArgs false
set_option maxRecDepth 20000
set_option maxHeartbeats 4000000
open List renaming length_singleton→A3,length_drop→A4,exists_cons_of_ne_nil→A5,length_append→A6,range→A7,length_take→A8,length_pos_iff→B2,mem_cons_self→B4,findIdx?_cons→B5,length_cons→B6,find?_cons→B7,length_nil→B8,length→C0
open Nat renaming lt_succ_self→A0,le_refl→A1,not_lt_zero→A2,le_trans→B0,zero_le→B1,eq_zero_or_pos→B3
open Bool renaming and_eq_true→A9
open Classical renaming byContradiction→B9
namespace Go.Eng
section
attribute[local simp] aW bJ bE aR
attribute[local simp] lB.cond Nd.d_eq nd_t nd_dr nd_td ndsD aX bO
def nU(l:List Tk):DV:=.sl (l.map Tk.d)
theorem aES:∀t:Tk,(aV t.d).length=2:=λ_=>rfl
def dV(p:PS):List (Nat×bI):=[(0,.box false [.d (nU p.l),.d (aJ p.e)])]
attribute[local simp] nU dV
theorem dL(c:Prop)[Decidable c](A B:bI)(x:Nat):cA (λx=>if x=0 then A else B) (if c then []else [(0,A)]) x=if x=0 then A else B:=by
 by_cases h:c<;>by_cases q:x=0<;>simp[h,q,cA,cK]
attribute[local simp] dL
theorem Dl{p:PS}(h:¬p.e=0\/p.l=[]):p.peek=[]:=by
 unfold PS.peek;by_cases q:p.e=0
 .rcases h with h|h
  .exact absurd q h
  .rw[if_neg (by simpa using q),h]
 .rw[if_pos q]
theorem ID{p:PS}{t:Tk}{r:List Tk}(h:p.e=0)(a:p.l=t::r):p.peek=t.text:=by
 unfold PS.peek;rw[if_neg (by simpa using h),a]
theorem fK{p:PS}{s:bA}:p.is s=true↔s≠[]/\p.peek=s:=by simp[PS.is]
theorem cO{p:PS}{s:bA}(h:p.is s=true):p.took s=p.skip:=if_pos h
theorem iF{p:PS}{s:bA}(h:¬p.is s=true):p.took s=p:=if_neg h
theorem nQ(p:PS):iP prog 156 [.bx 0 0] (dV p) (dV p) (.d (.str p.peek)):=by
 unfold dV;refine iV func156 rfl ntmps156 results156 λe X b=>?_;apply aD;simp;apply aF;apply aP;simp;refine⟨λg=>?_,λc d=>?_⟩
 .apply aD;simp;apply aH;simp;exact aA b [2] [(0,0)] (by simp[Dl g])
 .apply aG;simp;apply aF;obtain⟨t,r,a⟩:=A5 d;apply aI;simp[a,Tk.d];apply aH;simp;exact aA b [2] [(0,0)] (by simp[ID c a]) (by simp[a])
theorem Aw(p:PS)(e:Int):iP prog 157 [.bx 0 0,.d (aJ e)] (dV p) (dV (p.fail e)) (.tup []):=by
 unfold dV;refine oH func157 rfl ntmps157 results157 λc X b=>?_;apply aP;simp;refine⟨λa=>?_,λa=>?_⟩
 .apply aI;simp;exact aA b [] [(0,0)] (hH:=by simp[PS.fail,a])
 .apply aG;simp;exact aA b [] [(0,0)] (hH:=by simp[PS.fail,a])
theorem kS(p:PS)(s:bA):iP prog 158 [.bx 0 0,.d (.str s)] (dV p) (dV (p.took s)) (.d (.bool (p.is s))):=by
 unfold dV;refine iV func158 rfl ntmps158 results158 λh X c=>?_;apply aD;simp;apply aF;refine cP (oh 9 (dV p) (.d (.str p.peek))) ?_;simp;refine⟨λ_=>nQ p,?_⟩;apply aK;simp;refine⟨λg=>?_,λd e=>?_⟩
 .apply aD;simp;apply aH;simp;have b:¬p.is s=true:=λq=>by
   obtain⟨q1,q2⟩:=fK.1 q;rcases g with g|g
   .exact q1 g
   .exact g q2
  exact aA c [4] [(0,0)] (by simp[b]) (by simp[iF b])
 .apply aG;simp;apply aF;have a:p.is s=true:=fK.2 ⟨d,by simpa using e⟩;have f:=gQ a;apply aI;simp;refine⟨⟨aE,λt _=>aES t⟩,?_⟩;apply aD;simp;apply aH;simp;exact aA c [4] [(0,0)] (by simp[a]) (by simp[cO a,PS.skip])
theorem Ko{p:PS}{s:bA}(h:p.is s=true):p.need s=p.took s:=by unfold PS.need PS.took;rw[if_pos h,if_pos h]
theorem MC{p:PS}{s:bA}(h:p.is s=false):p.need s=(p.took s).fail 2:=by
 have a:¬p.is s=true:=by simp[h]
 rw[iF a];unfold PS.need;rw[if_neg a]
theorem wE{p:PS}(h:isNameB p.peek=true):nameP p=(p.peek,p.took p.peek):=by
 have:p.is p.peek=true:=fK.2 ⟨λe=>(by rw[e]at h;cases h),rfl⟩;rw[cO this];unfold nameP;rw[if_pos h]
theorem rZ{p:PS}(h:isNameB p.peek=false):nameP p=([],p.fail 2):=by unfold nameP;rw[if_neg (by simp[h])]
theorem lR(p:PS)(s:bA):iP prog 161 [.bx 0 0,.d (.str s)] (dV p) (dV (p.need s)) (.tup []):=by
 unfold dV;refine oH func161 rfl ntmps161 results161 λd X c=>?_;refine cP (oh 6 (dV (p.took s)) (.d (.bool (p.is s)))) ?_;simp;refine⟨kS p s,?_⟩;apply aK;simp;refine⟨λb=>?_,λb=>?_⟩
 .have a:=MC b;refine aU (oh 9 (dV ((p.took s).fail 2)) (.tup [])) ?_;simp;refine⟨Aw (p.took s) 2,?_⟩;exact aA c [] [(0,0)] (hH:=by simp[a])
 .have a:=Ko b;apply aG;simp;exact aA c [] [(0,0)] (hH:=by simp[a])
theorem Ck(p:PS):iP prog 159 [.bx 0 0] (dV p) (dV (nameP p).2) (.d (.str (nameP p).1)):=by
 unfold dV;refine iV func159 rfl ntmps159 results159 λc X b=>?_;apply aD;simp;refine cP (oh 5 (dV p) (.d (.str p.peek))) ?_;simp;refine⟨nQ p,?_⟩;apply aF;refine cP (og 7 (.plain ⟨.d (.bool (isNameB p.peek)),true⟩)) ?_;simp;refine⟨Ir p.peek,?_⟩;apply aK;simp;refine⟨λa=>?_,λa=>?_⟩
 .refine cP (oh 10 (dV (p.fail 2)) (.tup [])) ?_;simp;refine⟨Aw p 2,?_⟩;apply aD;simp;apply aH;simp;exact aA b [2] [(0,0)] (by simp[rZ a]) (by simp[rZ a])
 .apply aG;simp;refine cP (oh 13 (dV (p.took p.peek)) (.d (.bool (p.is p.peek)))) ?_;simp;refine⟨kS p p.peek,?_⟩;apply aD;simp;apply aH;simp;exact aA b [2] [(0,0)] (by simp[wE a]) (by simp[wE a])
end
section
attribute[local simp] aW bJ bE aR
attribute[local simp] lB.cond Nd.d_eq nd_t nd_dr nd_td ndsD aX
def Tk.r(t:Tk):DV:=.agg [aJ t.at_,aJ (t.at_+t.text.length)]
def InT(s:bA)(t:Tk):Prop:=∃a:Nat,t.at_=a/\a+t.text.length<=s.length/\(s.drop a).take t.text.length=t.text
theorem Gq(s:bA):∀(f k:Nat),k<=s.length->∀t∈(scanF f (s.drop k) k).1,InT s t
 |0,_,_,t,h=>by simp[scanF]at h
 |f+1,k,hk,t,h=>by
  by_cases b:k<s.length
  .have a:=List.drop_eq_getElem_cons b;have d:=Gq s f (k+1) b;have g:=Gq s f (k+nextN (s.drop k));generalize s[k]=c at a;have i:=yN (s.drop k);rw[A4]at i;have e:scanF (f+1) (s.drop k) k=if c=32\/c=10 then scanF f (s.drop (k+1)) ((k:Int)+1)else if nextN (s.drop k)=0 then([],(k:Int))else
    (⟨(s.drop k).take (nextN (s.drop k)),k⟩::(scanF f ((s.drop k).drop (nextN (s.drop k))) ((k:Int)+nextN (s.drop k))).1,(scanF f ((s.drop k).drop (nextN (s.drop k))) ((k:Int)+nextN (s.drop k))).2):=by
    rw[a];rfl
   rw[e]at h;split at h
   .exact d t (by simpa using h)
   .split at h
    .simp at h
    .rw[List.drop_drop]at h;simp only[List.mem_cons]at h;rcases h with h|h
     .refine⟨k,by rw[h],?_,?_⟩
      .rw[h];simp only[A8,A4];omega
      .rw[h];simp only[A8];rw[Nat.min_eq_left (by rw[A4];omega)]
     .exact g aE t (by simpa using h)
  .rw[List.drop_eq_nil_of_le aE]at h;simp[scanF]at h
theorem UX{s:bA}{i:Nat}(h:0<=uS s i):0<nextN (s.drop i):=by
 unfold uS at h;split at h
 .assumption
 .omega
theorem Gr{s:bA}{t:Tk}(h:t∈(scanS s).1):InT s t:=Gq s s.length 0 (B1 _) t (by simpa [scanS]using h)
theorem UY(s:bA)(w:s.length<=1000000000):Ok prog 106 [.str s] ⟨.tup [.own 2 ((scanS s).1.map Tk.r),.d (aJ (scanS s).2)],true⟩:=by
 refine Ok.two func106 jQ (c:=_) rfl ntmps106 bC results106 rfl λx X n=>?_;apply aD;simp;apply aD;simp;apply aD;simp;apply cR;refine aO (ι:=ScS) (λ⟨k,L⟩=>aQ [(0,.d (.str s)),(4,.ow 4 0 L.length),(5,.d (aJ k))]) (λ⟨k,L⟩=>aL [(4,.row false 2 (L.map Tk.r))]) (λ⟨k,L⟩=>L.length<=k/\k<=s.length/\scanS s=(L++(pS s k).1,(pS s k).2)) (λ⟨k,L⟩=>s.length-k) ⟨0,[]⟩ (aA n [0,4,5] [(4,4)]) (⟨A1 _,B1 _,by simp[pS,scanS]⟩) λ⟨k,L⟩ d=>?_;apply aF;apply aP;simp;refine⟨λo=>?_,λo=>?_⟩
 .apply aG;simp;apply aM;apply eG;have f:k<s.length:=aE;apply aI;simp;refine⟨⟨f,λ_=>f⟩,?_⟩;apply aK;simp;refine⟨λg=>?_,λu v=>?_⟩
  .have l:=(Av f).1 g;apply aD;simp;refine⟨aE,?_⟩;apply bG;simp;refine QT.mk ⟨k+1,L⟩ (aA n [0,4,5] [(4,4)]) ?_ ?_
   .refine⟨Nat.le_succ_of_le d.1,f,?_⟩;rw[d.2.2,DY f l]
   .show s.length-(k+1)<s.length-k;omega
  .have l:¬(s[k]=32\/s[k]=10):=λq=>by have:=(Av f).2 q;omega
   apply aG;simp;apply aF;have t:=YY s k f aE;refine aU (og 25 (.plain ⟨.d (aJ (uS s k)),true⟩)) ?_;simp;refine⟨t,?_⟩;apply aF;apply aP;simp;refine⟨λp=>?_,λp=>?_⟩
   .apply aD;simp;apply aH;simp;have r:nextN (s.drop k)=0:=by
     rcases B3 (nextN (s.drop k))with z|z
     .exact z
     .rw[show uS s k=(k:Int)+nextN (s.drop k) from if_pos z]at p;omega
    have e:=d.2.2;rw[Gp f l r]at e;rw[e];exact⟨⟨bC,λa _ c h=>by simp[Tk.r,aV]at h;rcases h with rfl|rfl<;>rfl⟩,rfl⟩
   .have j:0<nextN (s.drop k):=UX aE;have i:uS s k=(k:Int)+nextN (s.drop k):=if_pos j;have m:=yN (s.drop k);rw[A4]at m;have b:min (nextN (s.drop k)) (s.length-k)=nextN (s.drop k):=aE;apply aG;simp;apply aD;simp;refine⟨⟨aE,aE⟩,?_⟩;apply aI;simp;refine QT.mk ⟨k+nextN (s.drop k),L++[⟨(s.drop k).take (nextN (s.drop k)),k⟩]⟩ (aA n [0,4,5] [(35,4)] (by simp[i]) (by simp[Tk.r,i,b])) ?_ ?_
    .refine⟨?_,?_,?_⟩
     .show(L++[_]).length<=k+nextN (s.drop k);rw[A6,A3];omega
     .show k+nextN (s.drop k)<=s.length;omega
     .rw[d.2.2,IC f l aE];simp
    .show s.length-(k+nextN (s.drop k))<s.length-k;omega
 .apply bG;simp;apply aD;simp;apply aH;simp;have e:=d.2.2;rw[IB o]at e;rw[e];exact⟨⟨bC,λa _ c h=>by simp[Tk.r,aV]at h;rcases h with rfl|rfl<;>rfl⟩,rfl⟩
theorem Gs(s:bA)(a:s.length<=1000000000):Ok prog 106 [.str s] ⟨.tup [.d (.sl ((scanS s).1.map Tk.r)),.d (aJ (scanS s).2)],true⟩:=HX (UY s a)
end
end Go.Eng
namespace Go.Proofs
open Go.Shelf
def Tryz.atoiLay_ren:Go.Shelf.Ren:=⟨λ|172=>236|244=>289|245=>290|247=>321|279=>322|280=>323|281=>324|282=>325|287=>348|316=>349|171=>167|205=>350|321=>364|322=>365|243=>241|246=>301|283=>328|284=>329|285=>330|286=>331|129=>208|317=>352|318=>353|319=>354|320=>355|337=>366|338=>367|n=>n,λ|9=>9|3=>3|75=>260|76=>261|4=>4|5=>5|167=>302|37=>38|0=>0|85=>303|2=>2|168=>305|53=>93|175=>322|46=>166|210=>326|127=>337|145=>340|143=>338|21=>21|171=>313|173=>315|212=>329|51=>90|20=>20|213=>330|232=>99|233=>92|80=>205|n=>n,λ|15=>6|16=>7|17=>8|18=>9|19=>10|n=>n⟩
theorem Tryz.atoiLay:Go.Proofs.Lays.n172 prog Tryz.atoiLay_ren:={
 mixed:=by kernel_rfl,
 f129:=func208.trans (congrArg some (by kernel_rfl)),
 f171:=func167.trans (congrArg some (by kernel_rfl)),
 f172:=func236.trans (congrArg some (by kernel_rfl)),
 f205:=func350.trans (congrArg some (by kernel_rfl)),
 f243:=func241.trans (congrArg some (by kernel_rfl)),
 f244:=func289.trans (congrArg some (by kernel_rfl)),
 f245:=func290.trans (congrArg some (by kernel_rfl)),
 f246:=func301.trans (congrArg some (by kernel_rfl)),
 f247:=func321.trans (congrArg some (by kernel_rfl)),
 f279:=func322.trans (congrArg some (by kernel_rfl)),
 f280:=func323.trans (congrArg some (by kernel_rfl)),
 f281:=func324.trans (congrArg some (by kernel_rfl)),
 f282:=func325.trans (congrArg some (by kernel_rfl)),
 f283:=func328.trans (congrArg some (by kernel_rfl)),
 f284:=func329.trans (congrArg some (by kernel_rfl)),
 f285:=func330.trans (congrArg some (by kernel_rfl)),
 f286:=func331.trans (congrArg some (by kernel_rfl)),
 f287:=func348.trans (congrArg some (by kernel_rfl)),
 f316:=func349.trans (congrArg some (by kernel_rfl)),
 f317:=func352.trans (congrArg some (by kernel_rfl)),
 f318:=func353.trans (congrArg some (by kernel_rfl)),
 f319:=func354.trans (congrArg some (by kernel_rfl)),
 f320:=func355.trans (congrArg some (by kernel_rfl)),
 f321:=func364.trans (congrArg some (by kernel_rfl)),
 f322:=func365.trans (congrArg some (by kernel_rfl)),
 f337:=func366.trans (congrArg some (by kernel_rfl)),
 f338:=func367.trans (congrArg some (by kernel_rfl)),
 t0:=underlying0,
 a0:=isAgg0,
 z0:=sizeOf0,
 v0:=zeroValue0,
 t2:=underlying2,
 a2:=isAgg2,
 z2:=sizeOf2,
 v2:=zeroValue2,
 t3:=underlying3,
 a3:=isAgg3,
 z3:=sizeOf3,
 v3:=zeroValue3,
 t4:=underlying4,
 a4:=isAgg4,
 z4:=sizeOf4,
 v4:=zeroValue4,
 t5:=underlying5,
 a5:=isAgg5,
 z5:=sizeOf5,
 v5:=zeroValue5,
 t9:=underlying9,
 a9:=isAgg9,
 z9:=sizeOf9,
 v9:=zeroValue9,
 t20:=underlying20,
 a20:=isAgg20,
 z20:=sizeOf20,
 v20:=zeroValue20,
 t21:=underlying21,
 a21:=isAgg21,
 z21:=sizeOf21,
 v21:=zeroValue21,
 t37:=underlying38,
 a37:=isAgg38,
 z37:=sizeOf38,
 v37:=zeroValue38,
 t46:=underlying166,
 a46:=isAgg166,
 z46:=sizeOf166,
 v46:=zeroValue166,
 t51:=underlying90,
 a51:=isAgg90,
 z51:=sizeOf90,
 v51:=zeroValue90,
 t53:=underlying93,
 a53:=isAgg93,
 z53:=sizeOf93,
 v53:=zeroValue93,
 t75:=underlying260,
 a75:=isAgg260,
 z75:=sizeOf260,
 v75:=zeroValue260,
 t76:=underlying261,
 a76:=isAgg261,
 z76:=sizeOf261,
 v76:=zeroValue261,
 t85:=underlying303,
 a85:=isAgg303,
 z85:=sizeOf303,
 v85:=zeroValue303,
 t127:=underlying337,
 a127:=isAgg337,
 z127:=sizeOf337,
 v127:=zeroValue337,
 t143:=underlying338,
 a143:=isAgg338,
 z143:=sizeOf338,
 v143:=zeroValue338,
 t145:=underlying340,
 a145:=isAgg340,
 z145:=sizeOf340,
 v145:=zeroValue340,
 t167:=underlying302,
 a167:=isAgg302,
 z167:=sizeOf302,
 v167:=zeroValue302,
 t168:=underlying305,
 a168:=isAgg305,
 z168:=sizeOf305,
 v168:=zeroValue305,
 t171:=underlying313,
 a171:=isAgg313,
 z171:=sizeOf313,
 v171:=zeroValue313,
 t173:=underlying315,
 a173:=isAgg315,
 z173:=sizeOf315,
 v173:=zeroValue315,
 t175:=underlying322,
 a175:=isAgg322,
 z175:=sizeOf322,
 v175:=zeroValue322,
 t210:=underlying326,
 a210:=isAgg326,
 z210:=sizeOf326,
 v210:=zeroValue326,
 t212:=underlying329,
 a212:=isAgg329,
 z212:=sizeOf329,
 v212:=zeroValue329,
 t213:=underlying330,
 a213:=isAgg330,
 z213:=sizeOf330,
 t232:=underlying99,
 a232:=isAgg99,
 z232:=sizeOf99,
 v232:=zeroValue99,
 t233:=underlying92,
 a233:=isAgg92,
 z233:=sizeOf92,
 v233:=zeroValue92,
 g15:=by kernel_rfl,
 g16:=by kernel_rfl,
 g17:=by kernel_rfl,
 g18:=by kernel_rfl,
 g19:=by kernel_rfl}
end Go.Proofs
namespace Go.Eng
section
attribute[local simp] aW bJ bE aR
attribute[local simp] lB.cond Nd.d_eq nd_t nd_dr nd_td ndsD aX bO nU dV dL
theorem Dm{c:UInt8}(h:digitB c=true):Lib.digitVal c=some (c.toNat-48)/\48<=c.toNat/\c.toNat<=57:=by
 rw[Da]at h;simp only[A9,decide_eq_true_eq]at h;have a:48<=c.toNat:=aE;have b:c.toNat<=57:=aE;exact⟨by unfold Lib.digitVal;rw[if_pos ⟨a,b⟩],a,b⟩
theorem Gt:∀(s:bA) (a:Nat),(∀c∈s,digitB c=true)->∃m:Nat,Lib.decFrom a s=some m/\(m:Int)=s.foldl (λn c=>10*n+((c.toNat:Int)- 48)) (a:Int)
 |[],a,_=>⟨a,rfl,rfl⟩
 |c::r,a,h=>by
  obtain⟨e,g,i⟩:=Dm (h c (B4 ..));obtain⟨m,b,d⟩:=Gt r (a*10+(c.toNat-48)) λx f=>h x (List.mem_cons_of_mem _ f);refine⟨m,?_,?_⟩
  .unfold Lib.decFrom;rw[e];exact b
  .rw[d,List.foldl_cons];congr 1;omega
theorem MD{s:bA}(f:s≠[])(h:∀c∈s,digitB c=true):Lib.atoi s=some (valS s):=by
 cases s with
 |nil=>exact absurd rfl f
 |cons c r=>
  obtain⟨m,b,d⟩:=Gt (c::r) 0 h;obtain⟨_,a,j⟩:=Dm (h c (B4 ..));have g:¬(c==45)=true:=λq=>(by have e:c=45:=(by simpa using q);subst e;exact absurd a bF);have i:¬(c==43)=true:=λq=>(by have e:c=43:=(by simpa using q);subst e;exact absurd a bF);show(if(c==45)=true then(Lib.decNat r).map (λm:Nat=> -(m:Int))else if(c==43)=true then(Lib.decNat r).map (λm:Nat=>(m:Int))else(Lib.decNat (c::r)).map (λm:Nat=>(m:Int)))=some (valS (c::r));rw[if_neg g,if_neg i];unfold Lib.decNat;rw[if_neg bC,b,Option.map_some,d];rfl
theorem Gu{s:bA}(h:Po s)(b:digitB (s[0]?.getD 0)=true):s.length<=3/\∀c∈s,digitB c=true:=by
 obtain⟨f,a⟩:=h;cases s with
 |nil=>exact absurd rfl f
 |cons c r=>
  have b:digitB c=true:=b;obtain⟨_,e,l⟩:=Dm b;have k:¬letterB c=true:=λq=>by
   rw[Bh]at q;simp only[A9,decide_eq_true_eq]at q;omega
  have d:¬c=36:=λq=>by subst q;exact absurd e bF
  rw[lQ,if_neg k,if_neg d,if_pos b]at a;by_cases q:runP digitB (c::r)<=3
  .rw[if_pos q]at a;refine⟨aE,λx j=>?_⟩;obtain⟨i,g,rfl⟩:=List.getElem_of_mem j;exact runP_all g aE
  .rw[if_neg q]at a;simp at a
theorem Kp{s:bA}(h:Po s):s.length<=17:=by
 obtain⟨f,b⟩:=h;cases s with
 |nil=>simp
 |cons c r=>
  rw[<-b,lQ];have a:∀t:bA,wordN t<=16:=λt=>by
   rcases B3 (wordN t)with q|q
   .omega
   .obtain⟨_,_,_,_,_,q2⟩:=uK q;exact q2
  have d:=a (c::r);have e:=a r;repeat' split
  all_goals omega
theorem nR{p:PS}(h:bT p.l):p.peek.length<=17:=by
 by_cases q:p.peek=[]
 .rw[q];simp
 .exact Kp (uL h q)
theorem aBq(s:bA)(n:Int)(g:s.length<=18)(h:Lib.atoi s=some n):Ok prog 236 [.str s] ⟨.tup [.d (aJ n),.d (.val .nilIface)],true⟩:=by
 refine⟨⟨_,func236,jQ,rfl⟩,λw X j l b=>?_⟩
 match j,b.1 with
 |[u],_=>
  have d:=b.2 0 _ _ rfl rfl;cases d;refine(Go.Proofs.Any.strconv_Atoi Tryz.atoiLay ⟨s.toArray⟩ n (by simpa [ByteArray.size]using g) (by simpa using h) w).mono ?_;rintro e m ⟨rfl,t,rfl⟩;refine⟨_,rfl,?_,?_⟩
  .refine⟨by unfold Lib.bytesWorld World.freeze;split<;>rfl,by unfold Lib.bytesWorld World.freeze;split<;>rfl,by unfold Lib.bytesWorld World.freeze;split<;>rfl,by rw[Lib.bytesWorld_size];omega,λk f=>Lib.bytesWorld_at_old _ _ _ k f,?_⟩;unfold Lib.bytesWorld World.freeze;split<;>exact Nat.le_succ w.drawn
  .refine⟨[.int .i64 n,.nilIface],λ_=>none,rfl,rfl,λ_ _ _ q=>(by cases q),λi r v a c=>?_⟩
   match i,a with
   |0,a=>cases a;cases c;exact .int _ _
   |1,a=>cases a;cases c;exact .val _ rfl
theorem Hv(s t:bA)(b:s.length<=9223372036854775807)(f:t.length<=9223372036854775807):Ok prog 347 [.str s,.str t] ⟨.tup [.d (.str (if s.take t.length=t then s.drop t.length else s)),.d (.bool (decide (s.take t.length=t)))],true⟩:=by
 refine Ok.two func347 jQ (c:=_) rfl ntmps347 bC results347 rfl λi X g=>?_;apply aD;simp;apply eG;have h:=AP s t b f;refine aU (og 8 (.plain ⟨.d (.bool (decide (s.take t.length=t))),true⟩)) ?_;simp;refine⟨h,?_⟩;apply aK;simp;refine⟨λa=>?_,λa=>?_⟩
 .apply aD;simp;apply aH;simp;exact⟨λq=>absurd q a,a⟩
 .apply aG;simp;apply aF;have d:t.length<=s.length:=by have e:=congrArg C0 a;rw[A8]at e;omega
  apply aI;simp;refine⟨aE,?_⟩;apply aH;simp;exact⟨λq=>absurd a q,a⟩
theorem Kq(s t:bA)(a:s.length<=9223372036854775807)(b:t.length<=9223372036854775807):Ok prog 320 [.str s,.str t] ⟨.tup [.d (.str (if s.take t.length=t then s.drop t.length else s)),.d (.bool (decide (s.take t.length=t)))],true⟩:=by
 refine Ok.two func320 jQ (c:=_) rfl ntmps320 bC results320 rfl λe X d=>?_;apply aD;simp;apply aF;have h:=Hv s t a b;refine aU (og 8 (.plain ⟨.tup [.d (.str (if s.take t.length=t then s.drop t.length else s)),.d (.bool (decide (s.take t.length=t)))],true⟩)) ?_;simp[bM];refine⟨h,?_⟩;apply aH;simp
theorem lI{p:PS}(h:p.peek.take 1=[36]):p.peek=36::p.peek.drop 1/\localP p=(p.peek.drop 1,p.took p.peek):=by
 cases e:p.peek with
 |nil=>rw[e]at h;cases h
 |cons c r=>
  rw[e]at h;have a:c=36:=by simpa using h
  subst a;have b:p.is (36::r)=true:=fK.2 ⟨bC,e⟩;refine⟨rfl,?_⟩;rw[cO b];unfold localP;rw[e];rfl
theorem oL{p:PS}(h:¬p.peek.take 1=[36]):localP p=([],p.fail 2):=by
 unfold localP;split
 .rename_i r e;rw[e]at h;exact absurd rfl h
 .rfl
theorem Kr{k:Int}{p:PS}(h:p.peek=[]\/digitB (p.peek[0]?.getD 0)=false):numeralP k p=(0,p.fail 2):=by
 unfold numeralP;split
 .rfl
 .rename_i c r e;rw[e]at h;rcases h with h|h
  .cases h
  .have h:digitB c=false:=h;rw[if_neg (by simp[h])]
theorem Ks{k:Int}{p:PS}(d:¬p.peek=[])(a:digitB (p.peek[0]?.getD 0)=true)(b:valS p.peek<loAt k\/hiAt k<valS p.peek):numeralP k p=(0,p.fail 5):=by
 unfold numeralP;split
 .rename_i e;exact absurd e d
 .rename_i c r e;rw[e]at a b;have a:digitB c=true:=a;rw[if_pos a,if_pos b]
theorem PG{k:Int}{p:PS}(b:¬p.peek=[])(a:digitB (p.peek[0]?.getD 0)=true)(d:¬(valS p.peek<loAt k\/hiAt k<valS p.peek)):numeralP k p=(valS p.peek,p.took p.peek):=by
 have f:p.is p.peek=true:=fK.2 ⟨b,rfl⟩;rw[cO f];unfold numeralP;split
 .rename_i e;exact absurd e b
 .rename_i c r e;rw[e]at a d;have a:digitB c=true:=a;rw[if_pos a,if_neg d,e]
theorem Cl(p:PS)(h:bT p.l):iP prog 287 [.bx 0 0] (dV p) (dV (localP p).2) (.d (.str (localP p).1)):=by
 unfold dV;refine iV func287 rfl ntmps287 results287 λk X e=>?_;apply aD;simp;apply aF;have j:=nR h;have g:=Kq p.peek [36] aE bF;refine aU (λ|7=>some (.gen ⟨[(0,0)],[],[],dV p,.d (.str p.peek)⟩)|8=>some<| .plain ⟨.tup [.d (.str (if p.peek.take 1=[36]then p.peek.drop 1 else p.peek)),.d (.bool (decide (p.peek.take 1=[36])))],true⟩|_=>none) ?_;simp[bM];refine⟨⟨nQ p,by simpa using g⟩,?_⟩;apply aF;apply aP;simp;refine⟨λa=>?_,λa=>?_⟩
 .refine cP (oh 14 (dV (p.fail 2)) (.tup [])) ?_;simp;refine⟨Aw p 2,?_⟩;apply aD;simp;apply aH;simp;exact aA e [2] [(0,0)] (by simp[oL a]) (by simp[oL a])
 .apply aG;simp;apply aF;obtain⟨f,c⟩:=lI a;have d:36::p.peek.tail=p.peek:=by rw[<-List.drop_one];exact f.symm
  have i:=kS p p.peek;have b:=congrArg C0 d;refine aU (oh 18 (dV (p.took p.peek)) (.d (.bool (p.is p.peek)))) ?_;simp[a];refine⟨⟨by simp at b;omega,by rw[d];exact i⟩,?_⟩;apply aD;simp;apply aH;simp;exact aA e [2] [(0,0)] (by simp[a,c]) (by simp[c])
theorem sD(p:PS)(k:Int)(o:bT p.l)(c:0<=k/\k<37):iP prog 163 [.bx 0 0,.d (aJ k)] (dV p) (dV (numeralP k p).2) (.d (aJ (numeralP k p).1)):=by
 unfold dV;refine iV func163 rfl ntmps163 results163 λu X l=>?_;apply aD;simp;refine cP (oh 9 (dV p) (.d (.str p.peek))) ?_;simp;refine⟨nQ p,?_⟩;apply eG;have n:=yR (p.peek[0]?.getD 0);refine aU (og 15 (.plain ⟨.d (.bool (digitB (p.peek[0]?.getD 0))),true⟩)) ?_;simp;refine⟨⟨λh=>B2.2 h,λ_=>n⟩,?_⟩;apply aK;simp;refine⟨λg=>?_,λa d=>?_⟩
 .refine cP (oh 19 (dV (p.fail 2)) (.tup [])) ?_;simp;refine⟨Aw p 2,?_⟩;apply aD;simp;apply aH;simp;have e:=Kr (k:=k) g;exact aA l [4] [(0,0)] (by simp[e]) (by simp[e])
 .apply aG;simp;apply aF;obtain⟨t,f⟩:=Gu (uL o a) d;have m:=aBq p.peek (valS p.peek) aE (MD a f);refine aU (og 22 (.plain ⟨.tup [.d (aJ (valS p.peek)),.d (.val .nilIface)],true⟩)) ?_;simp[bM];refine⟨m,?_⟩;apply eG;have i:=glob1_lo c;have j:=glob1_hi c;have q:=glob1_len;apply aI;simp[i,j];refine⟨⟨⟨⟨c,aE⟩,λ_=>c⟩,λ_=>aE⟩,?_⟩;apply aK;simp;refine⟨λb=>?_,λr s=>?_⟩
  .refine cP (oh 40 (dV (p.fail 5)) (.tup [])) ?_;simp;refine⟨Aw p 5,?_⟩;apply aD;simp;apply aH;simp;have e:=Ks (k:=k) a d b;exact aA l [4] [(0,0)] (by simp[e]) (by simp[e])
  .apply aG;simp;refine cP (oh 43 (dV (p.took p.peek)) (.d (.bool (p.is p.peek)))) ?_;simp;refine⟨kS p p.peek,?_⟩;apply aD;simp;apply aH;simp;have e:=PG (k:=k) a d aE;exact aA l [4] [(0,0)] (by simp[e]) (by simp[e])
theorem IE{k:Int}{p:PS}(h:bT p.l)(b:loAt k<=0/\0<=hiAt k/\ -999<=loAt k/\hiAt k<=999): -999<=(numeralP k p).1/\(numeralP k p).1<=999:=by
 by_cases q1:p.peek=[]\/digitB (p.peek[0]?.getD 0)=false
 .rw[Kr q1];simp
 .have q2:¬p.peek=[]:=λe=>q1 (.inl e);have q3:digitB (p.peek[0]?.getD 0)=true:=by
   cases e:digitB (p.peek[0]?.getD 0)with
   |true=>rfl
   |false=>exact absurd (.inr e) q1
  by_cases a:valS p.peek<loAt k\/hiAt k<valS p.peek
  .rw[Ks q2 q3 a];simp
  .rw[PG q2 q3 a];simp only;omega
theorem Gv{p:PS}(h:p.is [45]=true):numberP p=(-(numeralP 0 (p.took [45])).1,(numeralP 0 (p.took [45])).2):=by
 rw[cO h];unfold numberP;rw[if_pos h]
theorem Gw{p:PS}(h:p.is [45]=false):numberP p=numeralP 0 (p.took [45]):=by
 have a:¬p.is [45]=true:=by simp[h]
 rw[iF a];unfold numberP;rw[if_neg a]
theorem eM{p:PS}{s:bA}(h:bT p.l):bT (p.took s).l:=by
 unfold PS.took;split
 .exact dJ h
 .exact h
theorem IF(p:PS)(b:bT p.l):iP prog 162 [.bx 0 0] (dV p) (dV (numberP p).2) (.d (aJ (numberP p).1)):=by
 unfold dV;refine iV func162 rfl ntmps162 results162 λg X d=>?_;apply aD;simp;apply aF;refine cP (oh 4 (dV (p.took [45])) (.d (.bool (p.is [45])))) ?_;simp;refine⟨kS p [45],?_⟩;apply aK;simp;refine⟨λa=>?_,λa=>?_⟩
 .apply aF;have c:=sD (p.took [45]) 0 (eM b) bF;have f:=IE (k:=0) (eM (s:=[45]) b) bF;refine aU (oh 6 (dV (numeralP 0 (p.took [45])).2) (.d (aJ (numeralP 0 (p.took [45])).1))) ?_;simp;refine⟨⟨c,aE⟩,?_⟩;apply aH;simp;have e:=Gv a;exact aA d [2] [(0,0)] (by simp[e]) (by simp[e])
 .apply aG;simp;apply aF;have c:=sD (p.took [45]) 0 (eM b) bF;refine aU (oh 9 (dV (numeralP 0 (p.took [45])).2) (.d (aJ (numeralP 0 (p.took [45])).1))) ?_;simp;refine⟨c,?_⟩;apply aH;simp;have e:=Gw a;exact aA d [2] [(0,0)] (by simp[e]) (by simp[e])
end
section
attribute[local simp] aW bJ bE aR
attribute[local simp] lB.cond Nd.d_eq nd_t nd_dr nd_td ndsD aX bO dL
def eI(s:bA)(T:List Tk)(p:PS):List (Nat×bI):=[(0,.box false [.d (.str s),.d (.sl (T.map Tk.r)),.d (aJ ((T.length:Int)- p.l.length)),.d (.bool (!decide (p.e=0))),.d (.bool (decide (p.e=5)))])]
attribute[local simp] eI
structure Cm(s:bA)(T:List Tk):Prop where
 hs:s.length<=1024
 ht:T.length<=1024
 hi:∀t∈T,InT s t
 hg:bT T
structure lA(T:List Tk)(p:PS):Prop where
 suf:p.l<:+T
 err:p.e=0\/p.e=2\/p.e=5
theorem lA.le{T:List Tk}{p:PS}(h:lA T p):p.l.length<=T.length:=h.suf.length_le
theorem lA.good{s:bA}{T:List Tk}{p:PS}(h:lA T p)(c:Cm s T):bT p.l:=λt a=>c.hg t (h.suf.mem a)
theorem lA.fail{T:List Tk}{p:PS}{e:Int}(h:lA T p)(a:e=2\/e=5):lA T (p.fail e):=by
 refine⟨by rw[pZ];exact h.suf,?_⟩;unfold PS.fail;split
 .exact .inr a
 .exact h.err
theorem lA.skip{T:List Tk}{p:PS}(h:lA T p):lA T p.skip:=⟨(List.tail_suffix _).trans h.suf,h.err⟩
theorem lA.took{T:List Tk}{p:PS}{w:bA}(h:lA T p):lA T (p.took w):=by
 unfold PS.took;split
 .exact h.skip
 .exact h
theorem lA.need{T:List Tk}{p:PS}{w:bA}(h:lA T p):lA T (p.need w):=by
 unfold PS.need;split
 .exact h.skip
 .exact h.fail (.inl rfl)
theorem lA.name{T:List Tk}{p:PS}(h:lA T p):lA T (nameP p).2:=by
 unfold nameP;split
 .exact h.skip
 .exact h.fail (.inl rfl)
theorem lA.local{T:List Tk}{p:PS}(h:lA T p):lA T (localP p).2:=by
 unfold localP;split
 .exact h.skip
 .exact h.fail (.inl rfl)
theorem lA.numeral{T:List Tk}{p:PS}{k:Int}(h:lA T p):lA T (numeralP k p).2:=by
 unfold numeralP;split
 .exact h.fail (.inl rfl)
 .split
  .split
   .exact h.fail (.inr rfl)
   .exact h.skip
  .exact h.fail (.inl rfl)
theorem lA.number{T:List Tk}{p:PS}(h:lA T p):lA T (numberP p).2:=by
 unfold numberP;split
 .exact h.skip.numeral
 .exact h.numeral
theorem lA.place{T:List Tk}{p:PS}(h:lA T p):lA T (placeP p).2:=by
 unfold placeP;split
 .exact h.name.skip.name
 .exact h.name
theorem lA.at{T:List Tk}{p:PS}{t:Tk}{r:List Tk}(h:lA T p)(a:p.l=t::r):∃n:Nat,(T.length:Int)- p.l.length=n/\n<T.length/\T[n]? =some t/\t∈T:=by
 obtain⟨b,rfl⟩:=h.suf;refine⟨b.length,bC,?_,?_,?_⟩
 .rw[a];simp
 .rw[a];simp
 .rw[a];simp
theorem kG(s:bA)(T:List Tk)(p:PS)(c:Cm s T)(f:lA T p):iP prog 302 [.bx 0 0] (eI s T p) (eI s T p) (.d (.str p.peek)):=by
 unfold eI;have u:=f.le;refine iV func302 rfl ntmps302 results302 λx X j=>?_;apply aD;simp;apply eG;refine fL.rd [] [] (λ_=>none) ?_;simp;apply aK;simp;refine⟨λg=>?_,λm k=>?_⟩
 .apply aD;simp;apply aH;simp;have e:p.peek=[]:=Dl (g.imp id λz=>List.eq_nil_of_length_eq_zero aE);exact aA j [2] [(0,0)] (by simp[e])
 .apply aG;simp;apply aF;obtain⟨t,r,b⟩:=A5 (l:=p.l) (λe=>by rw[e]at k;simp at k);obtain⟨n,w,i,h,v⟩:=f.at b;obtain⟨a,o,q,d⟩:=c.hi t v;refine fQ (fW [0] [(0,0)] bF bF (by simp[j])) ?_;simp;refine fL.rd [] [] (λ_=>none) ?_;simp[w,h,Tk.r,o];refine⟨⟨i,aE,aE⟩,?_⟩;apply aH;simp;exact aA j [2] [(0,0)] (by simp[ID m b,Km,d])
theorem Cn{p:PS}:((p.fail 2).e=0)=False:=eq_false (fail_e bF)
theorem Co{p:PS}:((p.fail 5).e=0)=False:=eq_false (fail_e bF)
theorem Cp{p:PS}:((p.fail 2).e=5)=(p.e=5):=by
 unfold PS.fail;split
 .rename_i h;simp[h]
 .rfl
theorem aBr{p:PS}(h:p.e=0):((p.fail 5).e=5)=True:=by unfold PS.fail;rw[if_pos h];simp
theorem Kt{p:PS}:p.skip.e=p.e:=rfl
attribute[local simp] Cn Co Cp pZ Kt
theorem sZ{T:List Tk}{p:PS}(h:p.peek≠[]):(T.length:Int)- p.skip.l.length=(T.length:Int)- p.l.length+1:=by
 have:=rQ h;omega
theorem Za{p:PS}(h:p.peek≠[]):p.e=0:=B9 λq=>h (Dl (.inl q))
theorem lA.pos{T:List Tk}{p:PS}(f:lA T p)(h:p.peek≠[]):0<=(T.length:Int)- p.l.length/\(T.length:Int)- p.l.length<T.length:=by
 have:=rQ h;have:=f.le;omega
theorem yV(s:bA)(T:List Tk)(p:PS)(c:Cm s T)(f:lA T p)(w:bA)(i:w≠[]):iP prog 333 [.bx 0 0,.d (.str w)] (eI s T p) (eI s T (p.took w)) (.d (.bool (p.is w))):=by
 unfold eI;have j:=f.le;have l:=c.ht;refine iV func333 rfl ntmps333 results333 λm X h=>?_;apply aD;simp;apply aF;refine cP (oh 6 (eI s T p) (.d (.str p.peek))) ?_;simp;refine⟨kG s T p c f,?_⟩;apply aK;simp;refine⟨λd=>?_,λd=>?_⟩
 .apply aD;simp;apply aH;simp;have b:¬p.is w=true:=λq=>d (fK.1 q).2;exact aA h [4] [(0,0)] (by simp[b]) (by simp[iF b])
 .apply aG;simp;apply aF;have a:p.peek≠[]:=λe=>i (by rw[<-d,e]);have g:=sZ (T:=T) a;have k:=f.pos a;apply aI;simp;refine⟨aE,?_⟩;apply aD;simp;apply aH;simp;have b:p.is w=true:=fK.2 ⟨i,d⟩;exact aA h [4] [(0,0)] (by simp[b]) (by simp[cO b,g])
theorem jE(s:bA)(T:List Tk)(p:PS)(c:Cm s T)(f:lA T p)(w:bA)(e:w≠[]):iP prog 304 [.bx 0 0,.d (.str w)] (eI s T p) (eI s T (p.need w)) (.tup []):=by
 unfold eI;refine oH func304 rfl ntmps304 results304 λg X d=>?_;refine cP (oh 6 (eI s T (p.took w)) (.d (.bool (p.is w)))) ?_;simp;refine⟨yV s T p c f w e,?_⟩;apply aK;simp;refine⟨λb=>?_,λb=>?_⟩
 .have a:=MC b;apply aI;simp;exact aA d [] [(0,0)] (hH:=by simp[a])
 .have a:=Ko b;apply aG;simp;exact aA d [] [(0,0)] (hH:=by simp[a])
theorem sE(s:bA)(T:List Tk)(p:PS)(c:Cm s T)(f:lA T p):iP prog 303 [.bx 0 0] (eI s T p) (eI s T (nameP p).2) (.d (.str (nameP p).1)):=by
 unfold eI;have h:=f.le;have l:=c.ht;have k:=nR (f.good c);refine iV func303 rfl ntmps303 results303 λm X g=>?_;apply aD;simp;refine cP (oh 5 (eI s T p) (.d (.str p.peek))) ?_;simp;refine⟨kG s T p c f,?_⟩;apply aF;refine cP (og 7 (.plain ⟨.d (.bool (isNameB p.peek)),true⟩)) ?_;simp;refine⟨wB p.peek aE,?_⟩;apply aK;simp;refine⟨λb=>?_,λb=>?_⟩
 .apply aD;simp;apply aD;simp;apply aH;simp;exact aA g [2] [(0,0)] (by simp[rZ b]) (by simp[rZ b])
 .apply aG;simp;apply aF;have a:p.peek≠[]:=λe=>by rw[e]at b;cases b
  have d:=sZ (T:=T) a;have j:=f.pos a;have i:p.is p.peek=true:=fK.2 ⟨a,rfl⟩;apply aI;simp;refine⟨aE,?_⟩;apply aD;simp;apply aH;simp;exact aA g [2] [(0,0)] (by simp[wE b]) (by simp[wE b,cO i,d])
theorem aBs{s:bA}(h:∀c∈s,digitB c=true):0<=valS s:=by
 obtain⟨m,_,e⟩:=Gt s 0 h;unfold valS;have a:(m:Int)=s.foldl (λn c=>10*n+((c.toNat:Int)- 48)) 0:=e;omega
theorem UZ{p:PS}(c:bT p.l)(h:p.peek.take 1=[36]):2<=p.peek.length:=by
 have d:p.peek≠[]:=λe=>(by rw[e]at h;cases h);obtain⟨_,a⟩:=uL c d;obtain⟨b,_⟩:=lI h;rw[b,lQ,if_neg bF,if_pos rfl]at a;rw[b];split at a
 .rename_i z;have:=yM (p.peek.drop 1);rw[B6]at a|-;omega
 .simp at a
theorem at0{w:bA}:w.take 1=[36]↔(1<=w.length/\(((w[0]?.getD 0).toNat:Int))=36):=by
 cases w with
 |nil=>simp
 |cons c r=>
  have:=Sw (c:=c);simp[this]
theorem uT(s:bA)(T:List Tk)(p:PS)(c:Cm s T)(f:lA T p):iP prog 370 [.bx 0 0] (eI s T p) (eI s T (localP p).2) (.d (.str (localP p).1)):=by
 unfold eI;have l:=f.le;have o:=c.ht;have d:=UZ (f.good c);refine iV func370 rfl ntmps370 results370 λt X j=>?_;apply aD;simp;refine cP (oh 5 (eI s T p) (.d (.str p.peek))) ?_;simp;refine⟨kG s T p c f,?_⟩;apply dA;simp;refine⟨λh=>aE,?_⟩;apply aK;simp;refine⟨λg=>?_,λr k=>?_⟩
 .have a:¬p.peek.take 1=[36]:=λq=>by have:=d q;have:=(at0.1 q).2;omega
  apply aD;simp;apply aD;simp;apply aH;simp;exact aA j [2] [(0,0)] (by simp[oL a]) (by simp[oL a])
 .have a:p.peek.take 1=[36]:=at0.2 ⟨aE,k⟩;apply aG;simp;apply aF;have b:p.peek≠[]:=λe=>by rw[e]at a;cases a
  have i:=sZ (T:=T) b;have n:=f.pos b;have m:p.is p.peek=true:=fK.2 ⟨b,rfl⟩;apply aI;simp;refine⟨aE,?_⟩;apply aD;simp;refine⟨aE,?_⟩;apply aH;simp;exact aA j [2] [(0,0)] (by simp[(lI a).2]) (by simp[(lI a).2,cO m,i])
theorem kH(s:bA)(T:List Tk)(p:PS)(c:Cm s T)(f:lA T p)(k n o:Int)(x:loAt k=n\/(loAt k<=0/\n=0))(u:hiAt k=o):iP prog 306 [.bx 0 0,.d (aJ n),.d (aJ o)] (eI s T p) (eI s T (numeralP k p).2) (.d (aJ (numeralP k p).1)):=by
 unfold eI;have w:=f.le;have B:=c.ht;have A:=nR (f.good c);refine iV func306 rfl ntmps306 results306 λF X l=>?_;apply aD;simp;refine cP (oh 10 (eI s T p) (.d (.str p.peek))) ?_;simp;refine⟨kG s T p c f,?_⟩;apply eG;have t:=rB p.peek 0 aE;refine aU (og 12 (.plain ⟨.d (.bool (firstIs digitB p.peek)),true⟩)) ?_;simp;refine⟨by simpa using t,?_⟩;apply aK;simp;refine⟨λh=>?_,λh=>?_⟩
 .have g:p.peek=[]\/digitB (p.peek[0]?.getD 0)=false:=by cases e:p.peek with|nil=>exact .inl rfl|cons a r=>rw[e]at h;exact .inr h
  apply aD;simp;apply aD;simp;apply aH;simp;have e:=Kr (k:=k) g;exact aA l [6] [(0,0)] (by simp[e]) (by simp[e])
 .have d:¬p.peek=[]:=λe=>by rw[e]at h;cases h
  have i:digitB (p.peek[0]?.getD 0)=true:=by cases e:p.peek with|nil=>exact absurd e d|cons a r=>rw[e]at h;exact h
  apply aG;simp;apply aF;obtain⟨v,j⟩:=Gu (uL (f.good c) d) i;have q:=UW p.peek v;have C:=aBs j;refine aU (og 18 (.plain ⟨.d (aJ (valS p.peek)),true⟩)) ?_;simp;refine⟨q,?_⟩;apply aF;apply aP;simp;refine⟨λb=>?_,λD E=>?_⟩
  .apply aD;simp;apply aD;simp;apply aD;simp;apply aH;simp;have e:=Ks (k:=k) d i aE;exact aA l [6] [(0,0)] (by simp[e]) (by simp[e,aBr (Za d)])
  .apply aG;simp;apply aF;have m:=sZ (T:=T) d;have z:=f.pos d;have y:p.is p.peek=true:=fK.2 ⟨d,rfl⟩;apply aI;simp;refine⟨aE,?_⟩;apply aD;simp;apply aH;simp;have e:=PG (k:=k) d i aE;exact aA l [6] [(0,0)] (by simp[e]) (by simp[e,cO y,m])
theorem Gx(s:bA)(T:List Tk)(p:PS)(c:Cm s T)(f:lA T p):iP prog 305 [.bx 0 0] (eI s T p) (eI s T (numberP p).2) (.d (aJ (numberP p).1)):=by
 unfold eI;refine iV func305 rfl ntmps305 results305 λh X d=>?_;apply aD;simp;apply aF;refine cP (oh 4 (eI s T (p.took [45])) (.d (.bool (p.is [45])))) ?_;simp;refine⟨yV s T p c f [45] bC,?_⟩;apply aK;simp;refine⟨λa=>?_,λa=>?_⟩
 .apply aF;have b:=kH s T (p.took [45]) c f.took 0 0 999 (.inr ⟨bF,rfl⟩) rfl;have g:=IE (k:=0) (eM (s:=[45]) (f.good c)) bF;refine aU (oh 6 (eI s T (numeralP 0 (p.took [45])).2) (.d (aJ (numeralP 0 (p.took [45])).1))) ?_;simp;refine⟨⟨b,aE⟩,?_⟩;apply aH;simp;have e:=Gv a;exact aA d [2] [(0,0)] (by simp[e]) (by simp[e])
 .apply aG;simp;apply aF;have b:=kH s T (p.took [45]) c f.took 0 0 999 (.inr ⟨bF,rfl⟩) rfl;refine aU (oh 9 (eI s T (numeralP 0 (p.took [45])).2) (.d (aJ (numeralP 0 (p.took [45])).1))) ?_;simp;refine⟨b,?_⟩;apply aH;simp;have e:=Gw a;exact aA d [2] [(0,0)] (by simp[e]) (by simp[e])
end
section
attribute[local simp] aW bJ bE aR
attribute[local simp] lB.cond Nd.d_eq nd_t nd_dr nd_td ndsD aX bO nU dV dL
theorem IG{p:PS}(h:(nameP p).2.is [46]=true):placeP p=(.mk 35 ((nameP p).1++46::(nameP ((nameP p).2.took [46])).1) 0 [],(nameP ((nameP p).2.took [46])).2):=by
 rw[cO h];unfold placeP;rw[if_pos h]
theorem DZ{p:PS}(h:(nameP p).2.is [46]=false):placeP p=(.mk 34 (nameP p).1 0 [],(nameP p).2.took [46]):=by
 have a:¬(nameP p).2.is [46]=true:=by simp[h]
 rw[iF a];unfold placeP;rw[if_neg a]
theorem qP{p:PS}(h:bT p.l):(nameP p).1.length<=17:=by
 unfold nameP;split
 .exact nR h
 .simp
theorem ME(p:PS)(b:bT p.l):iP prog 288 [.bx 0 0] (dV p) (dV (placeP p).2) (.d (placeP p).1.d):=by
 unfold dV;refine fJ func288 rfl ntmps288 results288 λg X c=>?_;apply aD;simp;refine cP (oh 5 (dV (nameP p).2) (.d (.str (nameP p).1))) ?_;simp;refine⟨Ck p,?_⟩;apply aF;refine cP (oh 8 (dV ((nameP p).2.took [46])) (.d (.bool ((nameP p).2.is [46])))) ?_;simp;refine⟨kS (nameP p).2 [46],?_⟩;apply aK;simp;refine⟨λa=>?_,λa=>?_⟩
 .have d:=qP b;have f:=qP (p:=(nameP p).2.took [46]) (eM (dE b).2.1);refine fL.rd [[0],[0],[0]] [[],[],[],[],[0],[],[],[3]] (oh 13 (dV (nameP ((nameP p).2.took [46])).2) (.d (.str (nameP ((nameP p).2.took [46])).1))) ?_;simp;refine⟨⟨⟨aE,Ck _⟩,aE⟩,?_⟩;apply aD;simp;apply aH;simp;have e:=IG a;refine bH (x:=(placeP p).1.d) (by simp[e]) ?_;simp;exact aA c [0] [(0,0)] (hH:=by simp[e])
 .apply aG;simp;apply aD;simp;apply aH;simp;have e:=DZ a;refine bH (x:=(placeP p).1.d) (by simp[e]) ?_;simp;exact aA c [0] [(0,0)] (hH:=by simp[e])
def opD(o:bA×Int):DV:=.agg [.str o.1,aJ o.2]
theorem PH:lK 6 2 Dw=opsL.map opD:=jQ
def opH(p:PS)(lv:Int):List (Nat×bI):=[(0,.box false [.d (nU p.l),.d (aJ p.e)]),(1,.box false [.d (aJ lv)]),(2,.box false [.bx 0 0])]
def opQ(p:PS)(lv:Int)(o:bA×Int):Bool:=decide (o.2=lv)&&decide (o.1=p.peek)
attribute[local simp] opH opD
theorem aDf(p:PS)(b:Int)(o:bA×Int):iP prog 346 [.d (opD o),.bx 1 0,.bx 2 0] (opH p b) (opH p b) (.d (.bool (opQ p b o))):=by
 unfold opH;refine iV func346 rfl ntmps346 results346 λd X c=>?_;apply aD;simp;apply aF;refine fL.rd [[],[],[],[],[],[0],[0]] [[],[],[],[],[],[],[],[],[0]] (oh 13 (dV p) (.d (.str p.peek))) ?_;simp;refine⟨λ_=>nQ p,?_⟩;apply aH;simp;by_cases a:o.2=b
 .exact aA c [4] [(0,0),(1,1),(2,2)] (by simp[a,opQ,Bool.beq_eq_decide_eq]) (by simp[a])
 .exact aA c [4] [(0,0),(1,1),(2,2)] (by simp[a,opQ]) (by simp[a])
theorem PI(p:PS)(a:Int)(l:List (bA×Int)):iP prog 345 [.d (.sl (l.map opD)),.fn 346 [.bx 1 0,.bx 2 0]] (opH p a) (opH p a) (.d (aJ (qA (opQ p a) l))):=by
 unfold opH;refine iV func345 rfl ntmps345 results345 λj X e=>?_;refine fL.len (t:=0) rfl λc=>?_;simp at c;apply aD;simp;apply dA;simp;apply aM;refine aO (ι:=Nat) (λi=>aQ [(0,.d (.sl (l.map opD))),(1,.fn 346 [.bx 1 0,.bx 2 0]),(7,.d (aJ l.length)),(8,.d (aJ i))]) (λi=>aL [(0,.box false [.d (nU p.l),.d (aJ p.e)]),(1,.box false [.d (aJ a)]),(2,.box false [.bx 0 0])]) (λi=>i<=l.length/\Pre (opQ p a) l i) (λi=>l.length-i) 0 (aA e [0,1,7,8] [(0,0),(1,1),(2,2)]) (⟨B1 _,Pre.zero⟩) λi b=>?_;apply aD;simp;apply aF;apply aK;simp;refine⟨λd=>?_,λd=>?_⟩
 .apply aG;simp;apply cR;apply aD;simp;apply aF;have f:i<l.length:=aE;have h:=aDf p a l[i];refine aU (og 16 (.gen ⟨[(0,0),(1,1),(2,2)],[],[],opH p a,.d (.bool (opQ p a l[i]))⟩)) ?_;simp[f,eU];refine⟨h,?_⟩;apply aK;simp;refine⟨λg=>?_,λg=>?_⟩
  .apply aD;simp;apply aH;simp;exact aA e [4] [(0,0),(1,1),(2,2)] (by simp[An (b.2.found d g)])
  .apply aG;simp;apply aI;simp;refine⟨aE,?_⟩;refine QT.mk (i+1) (aA e [0,1,7,8] [(0,0),(1,1),(2,2)]) ?_ ?_
   .exact⟨d,b.2.succ d g⟩
   .omega
 .apply bG;simp;apply aD;simp;apply aH;simp;exact aA e [4] [(0,0),(1,1),(2,2)] (by simp[Ao (b.2.none aE)])
theorem Zb(q:bA×Int->Bool):(A7 6).find? (λi=>q (opsL.getD i ([],0)))=opsL.findIdx? q:=by
 rw[show A7 6=[0,1,2,3,4,5] from rfl];unfold opsL;simp only[B7,B5,List.getD_cons_zero,List.getD_cons_succ,List.find?_nil,List.findIdx?_nil];cases q ([60],1)<;>cases q ([60,61],1)<;>cases q ([61,61],1)<;>cases q ([43],2)<;>cases q ([45],2)<;>cases q ([42],3)<;>rfl
theorem SA(p:PS)(a:Int):opI a p.peek=qA (opQ p a) opsL:=by
 unfold opI qA;rw[<-Zb (opQ p a)];rfl
def aBv(l:List (bA×Int)):List DV:=l.flatMap λo=>[.str o.1,aJ o.2]
theorem Zc:Dw=aBv opsL:=jQ
theorem SB:∀(l:List (bA×Int)) (k:Nat) (h:k<l.length),(aBv l)[k*2]?.getD default=.str l[k].1
 |o::l,0,_=>rfl
 |o::l,k+1,h=>by
  have a:=SB l k (by simpa using h);have e:aBv (o::l)=.str o.1::aJ o.2::aBv l:=rfl;rw[e,show(k+1)*2=k*2+1+1 by omega];exact a
theorem wF{p:PS}{lv:Int}(h:0<=opI lv p.peek):Dw[(opI lv p.peek).toNat*2]?.getD default=.str p.peek/\p.is p.peek=true/\opI lv p.peek<6:=by
 rw[SA]at h|-;unfold qA at h|-;split at h
 .rename_i i e;obtain⟨a,b,_⟩:=List.findIdx?_eq_some_iff_getElem.1 e;simp only[opQ,A9,decide_eq_true_eq]at b;have c:∀o∈opsL,o.1≠[]:=bF;have d:=c _ (List.getElem_mem a);rw[Zc,Int.toNat_natCast,SB opsL i a,b.2];rw[b.2]at d;have:i<6:=a;exact⟨rfl,fK.2 ⟨d,rfl⟩,aE⟩
 .omega
theorem Br{p:PS}{lv:Int}(h:0<=opI lv p.peek):opP lv p=(opI lv p.peek,p.took p.peek):=by
 rw[cO (wF h).2.1];unfold opP;rw[if_pos h]
theorem IH{p:PS}{lv:Int}(h:opI lv p.peek<0):opP lv p=(opI lv p.peek,p):=by
 unfold opP;rw[if_neg aE]
theorem Cq(p:PS)(lv:Int):iP prog 319 [.bx 0 0,.d (aJ lv)] (dV p) (dV (opP lv p).2) (.d (aJ (opP lv p).1)):=by
 unfold dV;refine iV func319 rfl ntmps319 results319 λi X d=>?_;apply aD;simp;apply aF;have c:=PI p lv opsL;have e:=CY;rw[<-SA]at c;refine aU (og 8 (.gen ⟨[(0,0),(3,1),(2,2)],[],[],opH p lv,.d (aJ (opI lv p.peek))⟩)) ?_;simp[PH];refine⟨⟨aE,c⟩,?_⟩;apply aF;apply aP;simp;refine⟨λb=>?_,λb=>?_⟩
 .have a:=Br b;obtain⟨f,h,g⟩:=wF b;refine fL.rd [] [[],[],[],[],[],[0]] (oh 16 (dV (p.took p.peek)) (.d (.bool (p.is p.peek)))) ?_;simp[f];refine⟨⟨⟨⟨b,g⟩,aE⟩,kS p p.peek⟩,?_⟩;apply aD;simp;apply aH;simp;exact aA d [4] [(0,0)] (by simp[a]) (by simp[a])
 .have a:=IH b;apply aG;simp;apply aD;simp;apply aH;simp;exact aA d [4] [(0,0)] (by simp[a]) (by simp[a])
end
section
attribute[local simp] aW bJ bE aR
attribute[local simp] lB.cond Nd.d_eq nd_t nd_dr nd_td ndsD aX bO nU dV dL
structure nV(n:Nat)(g:FuncId)(x:PS->Nd×PS):Prop where
 ok:∀q:PS,q.l.length<n->bT q.l->iP prog g [.bx 0 0] (dV q) (dV (x q).2) (.d (x q).1.d)
 le:∀q:PS,q.l.length<n->bT q.l->(x q).2.l.length<=q.l.length/\bT (x q).2.l
structure ChS where
 f:Nat
 n:Nd
 q:PS
theorem II{a:Int}{x:PS->Nd×PS}{f:Nat}{n:Nd}{q:PS}(b:q.l.length<f)(h:¬q.e=0):chainF a x f n q=(n,q):=by
 obtain⟨k,rfl⟩:∃k,f=k+1:=⟨f-1,aE⟩;rw[chainF,if_pos h]
theorem Gy{lv:Int}{x:PS->Nd×PS}{f:Nat}{n:Nd}{q:PS}(b:q.l.length<f)(h:q.e=0)(a:(opP lv q).1<0):chainF lv x f n q=(n,(opP lv q).2):=by
 obtain⟨k,rfl⟩:∃k,f=k+1:=⟨f-1,aE⟩;rw[chainF,if_neg (by simp[h]),if_pos a]
theorem MF{a:Int}{x:PS->Nd×PS}{f:Nat}{n:Nd}{q:PS}(b:q.l.length<f)(h:q.e=0)(c:0<=(opP a q).1):
 chainF a x f n q=chainF a x (f-1) (.mk (26+(opP a q).1) [] 0 [n,(x (opP a q).2).1]) (x (opP a q).2).2:=by
 obtain⟨k,rfl⟩:∃k,f=k+1:=⟨f-1,aE⟩;rw[chainF,if_neg (by simp[h]),if_neg aE];rfl
theorem EU{lv:Int}{q:PS}(b:0<=(opP lv q).1):(opP lv q).2.l.length+1=q.l.length/\(opP lv q).1<=5:=by
 have h:0<=opI lv q.peek:=b;obtain⟨_,a,c⟩:=wF h;rw[Br h,cO a];exact⟨gQ a,by simp only;omega⟩
theorem MG(p:PS)(a:Int)(x:PS->Nd×PS)(g:FuncId)(m:Nat)(c:nV m g x)(l:p.l.length<m)(k:bT p.l):iP prog 343 [.bx 0 0,.d (aJ a),.bm g [.bx 0 0]] (dV p) (dV (chainP a x p).2) (.d (chainP a x p).1.d):=by
 unfold dV;refine fJ func343 rfl ntmps343 results343 λy X i=>?_;apply aD;simp;apply aF;have r:=c.ok p l k;refine aU (oh 10 (dV (x p).2) (.d (x p).1.d)) ?_;simp[eU];refine⟨by simpa using r,?_⟩;apply cR;refine aO (ι:=ChS) (λ⟨f,n,q⟩=>aQ [(0,.bx 0 0),(1,.d (aJ a)),(2,.bm g [.bx 0 0]),(6,.bx 6 0),(7,.bx 7 0)]) (λ⟨f,n,q⟩=>aL [(0,.box false [.d (nU q.l),.d (aJ q.e)]),(6,.box false [.d (aJ 0),.d (.str []),.d (aJ 0),.nl]),(7,.box false [.d (aJ n.kind),.d (.str n.text),.d (aJ n.n),.d (ndsD n.kids)])]) (λ⟨f,n,q⟩=>q.l.length<f/\bT q.l/\q.l.length<=p.l.length/\chainP a x p=chainF a x f n q) (λ⟨f,n,q⟩=>q.l.length) ⟨(x p).2.l.length+1,(x p).1,(x p).2⟩ (aA i [0,1,2,6,7] [(0,0),(6,6),(7,7)]) (⟨A0 _,(c.le p l k).2,(c.le p l k).1,rfl⟩) λ⟨f,n,q⟩ b=>?_;apply aF;apply aP;simp;refine⟨λd=>?_,λd=>?_⟩
 .apply aG;simp;apply aM;apply aF;have t:=Cq q a;refine aU (oh 18 (dV (opP a q).2) (.d (aJ (opP a q).1))) ?_;simp;refine⟨t,?_⟩;apply aF;apply aP;simp;refine⟨λh=>?_,λh=>?_⟩
  .apply bG;simp;apply aD;simp;apply aH;simp;have e:chainP a x p=(n,(opP a q).2):=by rw[b.2.2.2];exact Gy b.1 d h
   exact aA i [0] [(0,0)] (by simp[e]) (by simp[e])
  .apply aG;simp;obtain⟨w,or⟩:=EU h;have j:=Al (lv:=a) b.2.1;have s:=c.ok (opP a q).2 aE j.2;refine fL.rd [[0,26],[0,26],[0]] [[],[],[],[],[0],[26],[],[7]] (oh 25 (dV (x (opP a q).2).2) (.d (x (opP a q).2).1.d)) ?_;simp[eU];refine⟨⟨⟨⟨aE,aE⟩,by simpa using s⟩,bF⟩,?_⟩;refine AX (bV 7 [26] (fz:=false) (cs:=[.d (aJ (26+(opP a q).1)),.d (.str []),.d (aJ 0),.ow 26 0 2]) (ds:=[aJ (26+(opP a q).1),.str [],aJ 0,.sl [n.d,(x (opP a q).2).1.d]]) bC bC bC (by simp[bI.mut])) ?_;simp;refine QT.mk ⟨f-1,.mk (26+(opP a q).1) [] 0 [n,(x (opP a q).2).1],(x (opP a q).2).2⟩ (aA i [0,1,2,6,7] [(0,0),(6,6),(7,7)]) ?_ ?_
   .have o:=c.le (opP a q).2 aE j.2;have u:=b.1;have v:=b.2.2.1;refine⟨?_,o.2,?_,?_⟩
    .show(x (opP a q).2).2.l.length<f-1;omega
    .show(x (opP a q).2).2.l.length<=p.l.length;omega
    .rw[b.2.2.2];exact MF b.1 d h
   .have o:=c.le (opP a q).2 aE j.2;show(x (opP a q).2).2.l.length<q.l.length;omega
 .apply bG;simp;apply aD;simp;apply aH;simp;have e:chainP a x p=(n,q):=by rw[b.2.2.2];exact II b.1 d
  exact aA i [0] [(0,0)] (by simp[e]) (by simp[e])
theorem Ea{ex:PS->Nd×PS}{p:PS}(h:p.is [40]=true):factP ex p=((ex (p.took [40])).1,(ex (p.took [40])).2.need [41]):=by
 rw[cO h];unfold factP;rw[if_pos h]
theorem Gz{ex:PS->Nd×PS}{p:PS}(b:p.is [40]=false)(a:p.is sKind=true):factP ex p=(.mk 36 [] 0 [],p.took sKind):=by
 rw[cO a];unfold factP;rw[if_neg (by simp[b]),if_pos a]
theorem Eb{ex:PS->Nd×PS}{p:PS}(b:p.is [40]=false)(d:p.is sKind=false)(f:¬p.peek=[])(a:digitB (p.peek[0]?.getD 0)=true):factP ex p=(.mk 32 [] (numeralP 32 p).1 [],(numeralP 32 p).2):=by
 unfold factP;rw[if_neg (by simp[b]),if_neg (by simp[d])];cases e:p.peek with
 |nil=>exact absurd e f
 |cons c r=>
  rw[e]at a;have a:digitB c=true:=a;simp only[a,if_true]
theorem Ec{ex:PS->Nd×PS}{p:PS}(d:p.is [40]=false)(f:p.is sKind=false)(b:¬p.peek=[]->digitB (p.peek[0]?.getD 0)=false)(a:p.peek.take 1=[36]):factP ex p=(.mk 33 (localP p).1 0 [],(localP p).2):=by
 unfold factP;rw[if_neg (by simp[d]),if_neg (by simp[f])];cases e:p.peek with
 |nil=>rw[e]at a;cases a
 |cons c r=>
  rw[e]at b a;have b:digitB c=false:=b bC;have a:c=36:=by simpa using a
  simp[a];decide
theorem Ee{ex:PS->Nd×PS}{p:PS}(d:p.is [40]=false)(f:p.is sKind=false)(a:¬p.peek=[]->digitB (p.peek[0]?.getD 0)=false)(b:¬p.peek.take 1=[36]):factP ex p=placeP p:=by
 unfold factP;rw[if_neg (by simp[d]),if_neg (by simp[f])];cases e:p.peek with
 |nil=>rfl
 |cons c r=>
  rw[e]at a b;have a:digitB c=false:=a bC;have b:¬c=36:=by simpa using b
  simp[a,b]
theorem aBw(p:PS)(n:Nat)(a:PS->Nd×PS)(u:nV n 285 a)(z:p.l.length<n+1)(f:bT p.l):iP prog 363 [.bx 0 0] (dV p) (dV (factP a p).2) (.d (factP a p).1.d):=by
 unfold dV;refine fJ func363 rfl ntmps363 results363 λA X i=>?_;apply aD;simp;refine cP (oh 6 (dV p) (.d (.str p.peek))) ?_;simp;refine⟨nQ p,?_⟩;apply cR;refine cP (oh 9 (dV (p.took [40])) (.d (.bool (p.is [40])))) ?_;simp;refine⟨kS p [40],?_⟩;apply aK;simp;refine⟨λb=>?_,λb=>?_⟩
 .apply aF;have w:=gQ b;rw[<-cO b]at w;have y:=u.ok (p.took [40]) aE (eM f);refine aU (oh 11 (dV (a (p.took [40])).2) (.d (a (p.took [40])).1.d)) ?_;simp;refine⟨by simpa using y,?_⟩;apply aF;have k:=lR (a (p.took [40])).2 [41];refine aU (oh 13 (dV ((a (p.took [40])).2.need [41])) (.tup [])) ?_;simp;refine⟨k,?_⟩;apply aD;simp;apply aH;simp;have e:=Ea (ex:=a) b;exact aA i [0] [(0,0)] (by simp[e]) (by simp[e])
 .have q:p.took [40]=p:=iF (by simp[b]);simp only[q];refine cP (oh 17 (dV (p.took [107,105,110,100])) (.d (.bool (p.is [107,105,110,100])))) ?_;simp;refine⟨kS p [107,105,110,100],?_⟩;apply aK;simp;refine⟨λd=>?_,λd=>?_⟩
  .apply aD;simp;apply aH;simp;have e:=Gz (ex:=a) b d;refine bH (x:=(factP a p).1.d) (by simp[e]) ?_;simp;exact aA i [0] [(0,0)] (hH:=by simp[e,sKind])
  .have r:p.took [107,105,110,100]=p:=iF (by simp[d]);simp only[r];apply aF;have v:=yR (p.peek[0]?.getD 0);refine aU (og 25 (.plain ⟨.d (.bool (digitB (p.peek[0]?.getD 0))),true⟩)) ?_;simp;refine⟨⟨λh=>B2.2 h,λ_=>v⟩,?_⟩;apply aK;simp;refine⟨λs t=>?_,λg=>?_⟩
   .apply aF;have l:=sD p 32 f bF;refine aU (oh 28 (dV (numeralP 32 p).2) (.d (aJ (numeralP 32 p).1))) ?_;simp;refine⟨l,?_⟩;apply aH;simp;have e:=Eb (ex:=a) b d s t;refine bH (x:=(factP a p).1.d) (by simp[e]) ?_;simp;exact aA i [0] [(0,0)] (hH:=by simp[e])
   .apply aF;have m:=qO p.peek [36] (by have:=nR f;omega) bF;refine aU (og 32 (.plain ⟨.d (.bool (decide (p.peek.take 1=[36]))),true⟩)) ?_;simp;refine⟨m,?_⟩;apply aK;simp;refine⟨λc=>?_,λc=>?_⟩
    .apply aF;have j:=Cl p f;refine aU (oh 34 (dV (localP p).2) (.d (.str (localP p).1))) ?_;simp;refine⟨j,?_⟩;apply aH;simp;have e:=Ec (ex:=a) b d g c;refine bH (x:=(factP a p).1.d) (by simp[e]) ?_;simp;exact aA i [0] [(0,0)] (hH:=by simp[e])
    .apply aG;simp;apply aF;have o:=ME p f;refine aU (oh 37 (dV (placeP p).2) (.d (placeP p).1.d)) ?_;simp;refine⟨by simpa using o,?_⟩;apply aH;simp;have e:=Ee (ex:=a) b d g c;exact aA i [0] [(0,0)] (by simp[e]) (by simp[e])
theorem Rt.le{n:Nat}{a:Int->Bool}{x:PS->Nd×PS}(h:Rt n a x)(q:PS)(c:q.l.length<n)(b:bT q.l):(x q).2.l.length<=q.l.length/\bT (x q).2.l:=⟨(h q c b).1,(h q c b).2.1⟩
theorem nV.fact{n:Nat}{a:PS->Nd×PS}(d:nV n 285 a)(e:Rt n isExprK a):nV (n+1) 363 (factP a):=
 ⟨λq c b=>aBw q n a d c b,λq c b=>(FY e).le q c b⟩
theorem aBx(p:PS)(n:Nat)(a:PS->Nd×PS)(b:nV n 285 a)(c:Rt n isExprK a)(f:p.l.length<n+1)(e:bT p.l):iP prog 344 [.bx 0 0] (dV p) (dV (prodP a p).2) (.d (prodP a p).1.d):=by
 unfold dV;refine fJ func344 rfl ntmps344 results344 λh X g=>?_;apply aD;simp;apply aF;have d:=MG p 3 (factP a) 363 (n+1) (b.fact c) f e;refine aU (oh 6 (dV (prodP a p).2) (.d (prodP a p).1.d)) ?_;simp;refine⟨by simpa [prodP]using d,?_⟩;apply aH;simp;exact aA g [0] [(0,0)]
theorem nV.prod{n:Nat}{a:PS->Nd×PS}(e:nV n 285 a)(d:Rt n isExprK a):nV (n+1) 344 (prodP a):=
 ⟨λq c b=>aBx q n a e d c b,λq c b=>(CW (FY d)).le q c b⟩
theorem Zd(p:PS)(n:Nat)(a:PS->Nd×PS)(b:nV n 285 a)(c:Rt n isExprK a)(f:p.l.length<n+1)(e:bT p.l):iP prog 318 [.bx 0 0] (dV p) (dV (sumP a p).2) (.d (sumP a p).1.d):=by
 unfold dV;refine fJ func318 rfl ntmps318 results318 λh X g=>?_;apply aD;simp;apply aF;have d:=MG p 2 (prodP a) 344 (n+1) (b.prod c) f e;refine aU (oh 6 (dV (sumP a p).2) (.d (sumP a p).1.d)) ?_;simp;refine⟨by simpa [sumP]using d,?_⟩;apply aH;simp;exact aA g [0] [(0,0)]
theorem Dn{a:PS->Nd×PS}{p:PS}(h:0<=(opP 1 (sumP a p).2).1):exprB a p=(.mk (26+(opP 1 (sumP a p).2).1) [] 0 [(sumP a p).1,(sumP a (opP 1 (sumP a p).2).2).1],(sumP a (opP 1 (sumP a p).2).2).2):=by
 unfold exprB;simp only[];rw[if_pos h]
theorem Do{a:PS->Nd×PS}{p:PS}(h:(opP 1 (sumP a p).2).1<0):exprB a p=((sumP a p).1,(opP 1 (sumP a p).2).2):=by
 unfold exprB;simp only[];rw[if_neg aE]
theorem PJ(p:PS)(n:Nat)(a:PS->Nd×PS)(h:nV n 285 a)(c:Rt n isExprK a)(j:p.l.length<n+1)(i:bT p.l):iP prog 285 [.bx 0 0] (dV p) (dV (exprB a p).2) (.d (exprB a p).1.d):=by
 unfold dV;refine fJ func285 rfl ntmps285 results285 λq X k=>?_;apply aD;simp;apply aF;have l:=Zd p n a h c j i;have f:=(JZ c).le p j i;refine aU (oh 6 (dV (sumP a p).2) (.d (sumP a p).1.d)) ?_;simp;refine⟨by simpa using l,?_⟩;apply eG;have m:=Cq (sumP a p).2 1;refine aU (oh 8 (dV (opP 1 (sumP a p).2).2) (.d (aJ (opP 1 (sumP a p).2).1))) ?_;simp;refine⟨m,?_⟩;apply aP;simp;refine⟨λb=>?_,λb=>?_⟩
 .apply aF;have o:=EU b;have g:=Al (lv:=1) f.2;have d:=Zd (opP 1 (sumP a p).2).2 n a h c aE g.2;refine fL.rd [[0,16],[0,16],[0]] [[],[],[],[],[0],[16],[],[2]] (oh 15 (dV (sumP a (opP 1 (sumP a p).2).2).2) (.d (sumP a (opP 1 (sumP a p).2).2).1.d)) ?_;simp;refine⟨⟨⟨⟨aE,aE⟩,by simpa using d⟩,bF⟩,?_⟩;apply aH;simp;have e:=Dn b;refine bH (x:=(exprB a p).1.d) (by simp[e]) ?_;simp;exact aA k [0] [(0,0)] (hH:=by simp[e])
 .apply aG;simp;apply aD;simp;apply aH;simp;have e:=Do b;exact aA k [0] [(0,0)] (by simp[e]) (by simp[e])
theorem GA:∀n:Nat,nV n 285 (exprP false n)
 |0=>⟨λq h _=>absurd h (A2 _),λq h _=>absurd h (A2 _)⟩
 |n+1=>by
  have e:∀q,exprP false (n+1) q=exprB (exprP false n) q:=λq=>by rw[exprP,if_neg bC]
  refine⟨λq b a=>?_,λq b a=>(BX (n+1)).le q b a⟩;rw[e];exact PJ q n (exprP false n) (GA n) (BX n) b a
theorem uU{c:Prop}[Decidable c]{f:Nat->bI}{A:bI}{x:Nat}(h:f 0=A):cA f (if c then [(0,A)]else []) x=f x:=by
 by_cases a:c
 .rw[if_pos a];subst h;simp only[cA,cK];split
  .rename_i e;rw[e]
  .rfl
 .rw[if_neg a];rfl
def PK(n:Nat)(x:PS->Nd×PS):Prop:=∀q:PS,q.l.length<n->bT q.l->q.e=0->(x q).2.e≠0\/(x q).2.l.length<q.l.length
structure BlS where
 f:Nat
 ks:List Nd
 q:PS
theorem IJ{b:PS->Nd×PS}{a:List Nd}{q:PS}(h:q.e=0->q.peek=[125]):∀f,stmtsF b f a q=(a,q)
 |0=>rfl
 |f+1=>by
  rw[stmtsF,if_pos];by_cases e:q.e=0
  .exact .inr (h e)
  .exact .inl e
theorem MH{a:PS->Nd×PS}{b:List Nd}{q:PS}{f:Nat}(d:q.l.length<f)(h:q.e=0)(c:¬q.peek=[125]):stmtsF a f b q=stmtsF a (f-1) (b++[(a q).1]) (a q).2:=by
 obtain⟨k,rfl⟩:∃k,f=k+1:=⟨f-1,aE⟩;rw[stmtsF,if_neg]
 .rfl
 .rintro(e|e)
  .exact e h
  .exact c e
theorem MI(p:PS)(n:Nat)(a:PS->Nd×PS)(r:nV n 235 a)(u:PK n a)(C:p.l.length<n)(v:bT p.l)(A:p.l.length<=1100000):iP prog 160 [.bx 0 0] (dV p) (dV (blockB a p).2) (.d (blockB a p).1.d):=by
 unfold dV;refine fJ func160 rfl ntmps160 results160 λD X m=>?_;apply aD;simp;apply aD;simp;refine iU (fz:=false) (cs:=[.d (aJ 8),.d (.str []),.d (aJ 0),.nl]) 3 3 1022 4 bF ⟨bC,bC,bC,?_⟩;simp;apply aF;have k:=lR p [123];have gl:=cE (s:=[123]) v;refine aU (oh 6 (dV (p.need [123])) (.tup [])) ?_;simp;refine⟨k,?_⟩;apply cR;refine aO (ι:=BlS) (λ⟨f,c,q⟩=>aQ [(0,.bx 0 0),(2,.bx 2 0),(3,.bx 3 0)]) (λ⟨f,c,q⟩=>aL [(0,.box false [.d (nU q.l),.d (aJ q.e)]),(2,.box false [.d (aJ 0),.d (.str []),.d (aJ 0),.nl]),(3,.box false [.d (aJ 8),.d (.str []),.d (aJ 0),.ow 1022 0 c.length]),(1022,.row false 4 (c.map Nd.d))]) (λ⟨f,c,q⟩=>(q.e=0->q.l.length<f)/\bT q.l/\q.l.length<=p.l.length/\c.length+q.l.length<=p.l.length+(if q.e=0 then 0 else 1)/\stmtsF a ((p.need [123]).l.length+1) [] (p.need [123])=stmtsF a f c q) (λ⟨f,c,q⟩=>2*q.l.length+(if q.e=0 then 1 else 0)) ⟨(p.need [123]).l.length+1,[],p.need [123]⟩ (aA m [0,2,3] [(0,0),(2,2),(3,3),(1022,1022)]) (⟨λ_=>A0 _,gl.2,gl.1,by have:=gl.1;simp only[B8];omega,rfl⟩) λ⟨f,c,q⟩ b=>?_;apply eG;have o:=nQ q;refine aU (oh 14 (dV q) (.d (.str q.peek))) ?_;simp[uU];refine⟨λ_=>o,?_⟩;apply aK;simp;refine⟨λi t=>?_,λg=>?_⟩
 .apply aG;simp;apply aM;have y:q.l.length<=p.l.length:=b.2.2.1;have B:c.length+q.l.length<=p.l.length:=by have z:=b.2.2.2.1;simp only[i,if_true]at z;omega
  have w:=r.ok q aE b.2.1;have j:=r.le q aE b.2.1;have d:=u q aE b.2.1 i;refine fL.rd [[0,21],[0,21]] [[],[],[],[0],[21],[22,1022],[],[3]] (oh 20 (dV (a q).2) (.d (a q).1.d)) ?_;simp;refine⟨⟨by simpa using w,aE,aE⟩,?_⟩;refine QT.mk ⟨f-1,c++[(a q).1],(a q).2⟩ (aA m [0,2,3] [(0,0),(2,2),(3,3),(22,1022)]) ?_ ?_
  .refine⟨λe=>?_,j.2,?_,?_,?_⟩
   .show(a q).2.l.length<f-1;have z:=b.1 i;rcases d with h|h
    .exact absurd e h
    .omega
   .show(a q).2.l.length<=p.l.length;omega
   .show(c++[(a q).1]).length+(a q).2.l.length<=p.l.length+(if(a q).2.e=0 then 0 else 1);rw[A6,A3];by_cases e:(a q).2.e=0
    .rw[if_pos e];rcases d with h|h
     .exact absurd e h
     .omega
    .rw[if_neg e];omega
   .rw[b.2.2.2.2];exact MH (b.1 i) i t
  .show 2*(a q).2.l.length+(if(a q).2.e=0 then 1 else 0)<2*q.l.length+(if q.e=0 then 1 else 0);rw[if_pos i];by_cases e:(a q).2.e=0
   .rw[if_pos e];rcases d with h|h
    .exact absurd e h
    .omega
   .rw[if_neg e];omega
 .apply bG;simp;apply aF;have l:=lR q [125];refine aU (oh 25 (dV (q.need [125])) (.tup [])) ?_;simp;refine⟨l,?_⟩;apply aD;simp;apply aH;simp;have e:blockB a p=(.mk 8 [] 0 c,q.need [125]):=by unfold blockB;simp only[];rw[b.2.2.2.2,IJ g]
  refine bH (x:=(blockB a p).1.d) (by simp[e]) ?_;simp;exact aA m [0] [(0,0)] (hH:=by simp[e])
def cmdA(k:Int)(p:PS):bA×PS:=if k=19\/k=20 then localP p else if k=21\/k=25\/k=24 then([],p)else nameP p
theorem uV{k:Int}{p:PS}(h:bT p.l):(cmdA k p).2.l.length<=p.l.length/\bT (cmdA k p).2.l:=by
 unfold cmdA;split
 .exact⟨(eS h).1,(eS h).2.1⟩
 .split
  .exact⟨A1 _,h⟩
  .exact⟨(dE h).1,(dE h).2.1⟩
theorem GB{ex:PS->Nd×PS}{k:Int}{p:PS}(h:k=15\/k=22\/k=24):cmdP ex k p=(.mk k (cmdA k p).1 0 [(ex (cmdA k p).2).1],(ex (cmdA k p).2).2):=by
 unfold cmdP;simp only[];rw[if_pos h];rfl
theorem EV{ex:PS->Nd×PS}{k:Int}{p:PS}(a:¬(k=15\/k=22\/k=24))(h:k=16\/k=23):cmdP ex k p=(.mk k (cmdA k p).1 0 [.mk 33 (localP (cmdA k p).2).1 0 []],(localP (cmdA k p).2).2):=by
 unfold cmdP;simp only[];rw[if_neg a,if_pos h];rfl
theorem Ay{ex:PS->Nd×PS}{k:Int}{p:PS}(a:¬(k=15\/k=22\/k=24))(b:¬(k=16\/k=23))(h:k=19\/k=21\/k=25):cmdP ex k p=(.mk k (cmdA k p).1 (numeralP k (cmdA k p).2).1 [],(numeralP k (cmdA k p).2).2):=by
 unfold cmdP;simp only[];rw[if_neg a,if_neg b,if_pos h];rfl
theorem uW{ex:PS->Nd×PS}{k:Int}{p:PS}(a:¬(k=15\/k=22\/k=24))(b:¬(k=16\/k=23))(h:¬(k=19\/k=21\/k=25)):cmdP ex k p=(.mk k (cmdA k p).1 0 [],(cmdA k p).2):=by
 unfold cmdP;simp only[];rw[if_neg a,if_neg b,if_neg h];rfl
def cdH(p:PS)(x:Nd):List (Nat×bI):=[(0,.box false [.d (nU p.l),.d (aJ p.e)]),(1,.box false [.d (aJ x.kind),.d (.str x.text),.d (aJ x.n),.d (ndsD x.kids)])]
structure SPS where
 s:bA
 q:PS
theorem PL(p:PS)(n:Nat)(f:PS->Nd×PS)(k:Int)(M:0<=k/\k<37)(L:nV n 285 f)(O:p.l.length<n)(B:bT p.l):iP prog 286 [.bx 0 0,.bx 1 0] [(0,.box false [.d (nU p.l),.d (aJ p.e)]),(1,.box false [.d (aJ k),.d (.str []),.d (aJ 0),.nl])] (cdH (cmdP f k p).2 (cmdP f k p).1) (.tup []):=by
 unfold cdH;refine oH func286 rfl ntmps286 results286 λP X a=>?_;refine aY (ι:=SPS) (λ⟨s,q⟩=>aQ [(0,.bx 0 0),(1,.bx 1 0)]) (λ⟨s,q⟩=>aL [(0,.box false [.d (nU q.l),.d (aJ q.e)]),(1,.box false [.d (aJ k),.d (.str s),.d (aJ 0),.nl])]) (λ⟨s,q⟩=>cmdA k p=(s,q)) ?_ λ⟨s,q⟩ c=>?_
 .apply aD;simp;apply aM;refine aY (ι:=BC) (λ⟨b⟩=>aQ [(0,.bx 0 0),(1,.bx 1 0),(7,.d (aJ k)),(13,.d (.bool b))]) (λ⟨b⟩=>aL [(0,.box false [.d (nU p.l),.d (aJ p.e)]),(1,.box false [.d (aJ k),.d (.str []),.d (aJ 0),.nl])]) (λ⟨b⟩=>b=true↔(k=19\/k=20)) ?_ λ⟨b⟩ A=>?_
  .apply aP;simp;refine⟨λH=>?_,λH=>?_⟩
   .apply aG;simp;refine aAV.mk ⟨decide (k=19)⟩ (aA a [0,1,7,13] [(0,0),(1,1)]) ?_;simp[H]
   .apply aI;simp;refine aAV.mk ⟨decide (k=20)⟩ (aA a [0,1,7,13] [(0,0),(1,1)]) ?_;simp only[decide_eq_true_eq];omega
  .apply aK;simp;refine⟨λE=>?_,λE=>?_⟩
   .have C:=A.1 E;have t:=Cl p B;refine aU (oh 18 (dV (localP p).2) (.d (.str (localP p).1))) ?_;simp;refine⟨t,?_⟩;refine aAV.mk ⟨(localP p).1,(localP p).2⟩ (aA a [0,1] [(0,0),(1,1)]) ?_;unfold cmdA;rw[if_pos C]
   .have C:¬(k=19\/k=20):=λq=>by simp[A.2 q]at E
    refine aY (ι:=BC) (λ⟨b⟩=>aQ [(0,.bx 0 0),(1,.bx 1 0),(7,.d (aJ k)),(21,.d (.bool b))]) (λ⟨b⟩=>aL [(0,.box false [.d (nU p.l),.d (aJ p.e)]),(1,.box false [.d (aJ k),.d (.str []),.d (aJ 0),.nl])]) (λ⟨b⟩=>b=true↔(k=21\/k=25\/k=24)) ?_ λ⟨b⟩ z=>?_
    .apply aP;simp;refine⟨λI=>?_,λI=>?_⟩
     .apply aG;simp;refine aAV.mk ⟨decide (k=21)⟩ (aA a [0,1,7,21] [(0,0),(1,1)]) ?_;simp[I]
     .apply aP;simp;refine⟨λJ=>?_,λJ=>?_⟩
      .apply aG;simp;refine aAV.mk ⟨decide (k=25)⟩ (aA a [0,1,7,21] [(0,0),(1,1)]) ?_;simp[J]
      .apply aI;simp;refine aAV.mk ⟨decide (k=24)⟩ (aA a [0,1,7,21] [(0,0),(1,1)]) ?_;simp only[decide_eq_true_eq];omega
    .apply aK;simp;refine⟨λD=>?_,λD=>?_⟩
     .have q1:=z.1 D;apply aG;simp;refine aAV.mk ⟨[],p⟩ (aA a [0,1] [(0,0),(1,1)]) ?_;unfold cmdA;rw[if_neg C,if_pos q1]
     .have q1:¬(k=21\/k=25\/k=24):=λq=>by simp[z.2 q]at D
      have F:=Ck p;refine aU (oh 10 (dV (nameP p).2) (.d (.str (nameP p).1))) ?_;simp;refine⟨F,?_⟩;refine aAV.mk ⟨(nameP p).1,(nameP p).2⟩ (aA a [0,1] [(0,0),(1,1)]) ?_;unfold cmdA;rw[if_neg C,if_neg q1]
 .apply aD;simp;apply aM;refine aY (ι:=BC) (λ⟨b⟩=>aQ [(0,.bx 0 0),(1,.bx 1 0),(28,.d (aJ k)),(29,.d (.bool b))]) (λ⟨b⟩=>aL [(0,.box false [.d (nU q.l),.d (aJ q.e)]),(1,.box false [.d (aJ k),.d (.str s),.d (aJ 0),.nl])]) (λ⟨b⟩=>b=true↔(k=15\/k=22\/k=24)) ?_ λ⟨b⟩ i=>?_
  .apply aP;simp;refine⟨λK=>?_,λK=>?_⟩
   .apply aG;simp;refine aAV.mk ⟨decide (k=15)⟩ (aA a [0,1,28,29] [(0,0),(1,1)]) ?_;simp[K]
   .apply aP;simp;refine⟨λv=>?_,λv=>?_⟩
    .apply aG;simp;refine aAV.mk ⟨decide (k=22)⟩ (aA a [0,1,28,29] [(0,0),(1,1)]) ?_;simp[v]
    .apply aI;simp;refine aAV.mk ⟨decide (k=24)⟩ (aA a [0,1,28,29] [(0,0),(1,1)]) ?_;simp only[decide_eq_true_eq];omega
  .apply aK;simp;refine⟨λm=>?_,λm=>?_⟩
   .have d:=i.1 m;have g:=uV (k:=k) B;rw[c]at g;have N:=L.ok q (by have:=g.1;simp only at this;omega) g.2;refine aU (oh 35 (dV (f q).2) (.d (f q).1.d)) ?_;simp;refine⟨by simpa using N,?_⟩;have e:=GB (ex:=f) (p:=p) d;rw[c]at e;refine jD.trans (bV 1 [36] (fz:=false) (cs:=[.d (aJ k),.d (.str s),.d (aJ 0),.ow 36 0 1]) (ds:=[aJ k,.str s,aJ 0,.sl [(f q).1.d]]) bC bC bC (by simp[bI.mut])) ?_;simp;exact aA a [] [(0,0),(1,1)] (hH:=by simp[e])
   .have d:¬(k=15\/k=22\/k=24):=λq=>by simp[i.2 q]at m
    refine aY (ι:=BC) (λ⟨b⟩=>aQ [(0,.bx 0 0),(1,.bx 1 0),(28,.d (aJ k)),(39,.d (.bool b))]) (λ⟨b⟩=>aL [(0,.box false [.d (nU q.l),.d (aJ q.e)]),(1,.box false [.d (aJ k),.d (.str s),.d (aJ 0),.nl])]) (λ⟨b⟩=>b=true↔(k=16\/k=23)) ?_ λ⟨b⟩ j=>?_
    .apply aP;simp;refine⟨λw=>?_,λw=>?_⟩
     .apply aG;simp;refine aAV.mk ⟨decide (k=16)⟩ (aA a [0,1,28,39] [(0,0),(1,1)]) ?_;simp[w]
     .apply aI;simp;refine aAV.mk ⟨decide (k=23)⟩ (aA a [0,1,28,39] [(0,0),(1,1)]) ?_;simp only[decide_eq_true_eq];omega
    .apply aK;simp;refine⟨λo=>?_,λo=>?_⟩
     .have h:=j.1 o;have g:=uV (k:=k) B;rw[c]at g;have t:=Cl q g.2;refine aU (oh 44 (dV (localP q).2) (.d (.str (localP q).1))) ?_;simp;refine⟨t,?_⟩;have e:=EV (ex:=f) (p:=p) d h;rw[c]at e;refine jD.trans (bV 1 [46] (fz:=false) (cs:=[.d (aJ k),.d (.str s),.d (aJ 0),.ow 46 0 1]) (ds:=[aJ k,.str s,aJ 0,.sl [(Nd.mk 33 (localP q).1 0 []).d]]) bC bC bC (by simp[bI.mut])) ?_;simp;exact aA a [] [(0,0),(1,1)] (hH:=by simp[e])
     .have h:¬(k=16\/k=23):=λq=>by simp[j.2 q]at o
      refine aY (ι:=BC) (λ⟨b⟩=>aQ [(0,.bx 0 0),(1,.bx 1 0),(28,.d (aJ k)),(49,.d (.bool b))]) (λ⟨b⟩=>aL [(0,.box false [.d (nU q.l),.d (aJ q.e)]),(1,.box false [.d (aJ k),.d (.str s),.d (aJ 0),.nl])]) (λ⟨b⟩=>b=true↔(k=19\/k=21\/k=25)) ?_ λ⟨b⟩ l=>?_
      .apply aP;simp;refine⟨λx=>?_,λx=>?_⟩
       .apply aG;simp;refine aAV.mk ⟨decide (k=19)⟩ (aA a [0,1,28,49] [(0,0),(1,1)]) ?_;simp[x]
       .apply aP;simp;refine⟨λy=>?_,λy=>?_⟩
        .apply aG;simp;refine aAV.mk ⟨decide (k=21)⟩ (aA a [0,1,28,49] [(0,0),(1,1)]) ?_;simp[y]
        .apply aI;simp;refine aAV.mk ⟨decide (k=25)⟩ (aA a [0,1,28,49] [(0,0),(1,1)]) ?_;simp only[decide_eq_true_eq];omega
      .apply aK;simp;refine⟨λr=>?_,λr=>?_⟩
       .have u:=l.1 r;have g:=uV (k:=k) B;rw[c]at g;have G:=sD q k g.2 M;refine aU (oh 59 (dV (numeralP k q).2) (.d (aJ (numeralP k q).1))) ?_;simp;refine⟨G,?_⟩;have e:=Ay (ex:=f) (p:=p) d h u;rw[c]at e;refine jD.trans (bV 1 [] (fz:=false) (cs:=[.d (aJ k),.d (.str s),.d (aJ (numeralP k q).1),.nl]) (ds:=[aJ k,.str s,aJ (numeralP k q).1,.sl []]) bC bC bC (by simp[bI.mut])) ?_;simp;exact aA a [] [(0,0),(1,1)] (hH:=by simp[e])
       .have u:¬(k=19\/k=21\/k=25):=λq=>by simp[l.2 q]at r
        apply aG;simp;have e:=uW (ex:=f) (p:=p) d h u;rw[c]at e;refine jD.trans (bV 1 [] (fz:=false) (cs:=[.d (aJ k),.d (.str s),.d (aJ 0),.nl]) (ds:=[aJ k,.str s,aJ 0,.sl []]) bC bC bC (by simp[bI.mut])) ?_;simp;exact aA a [] [(0,0),(1,1)] (hH:=by simp[e])
end
theorem Bs{α:Type}(q:α->Bool)(d:α):∀l:List α,(A7 l.length).find? (λi=>q (l.getD i d))=l.findIdx? q
 |[]=>rfl
 |x::l=>by
  have a:=Bs q d l;rw[B6,List.range_succ_eq_map,B7,B5];have e:(x::l).getD 0 d=x:=rfl;rw[e];cases h:q x with
  |true=>simp
  |false=>
   simp only[List.find?_map];rw[<-a];rfl
theorem aBy{s:bA}(h:¬s=[]):kindP s=qA (λx=>decide (s=x)) wordsL:=by
 unfold kindP wordI qA;rw[if_neg h];have e:=Bs (λx=>decide (s=x)) [] wordsL;rw[show wordsL.length=26 from rfl]at e;rw[<-e];have a:(λi=>decide (wordsL.getD i []=s))=λi=>decide (s=wordsL.getD i []):=by funext i;rw[decide_eq_decide];exact eq_comm
 rw[a];rfl
theorem Cr{s:bA}(h:s=[]):kindP s= -1:=by unfold kindP;rw[if_pos h]
theorem lJ{p:PS}(h:0<=kindP p.peek):p.is p.peek=true:=fK.2 ⟨λe=>by rw[Cr e]at h;omega,rfl⟩
theorem EW{ex bl:PS->Nd×PS}{p:PS}{k:Int}(b:kindP p.peek=k)(h:k=11)(a:(bl (ex (p.took p.peek)).2).2.is sElse=true):
 stmtB ex bl p=(.mk k [] 0 [(ex (p.took p.peek)).1,(bl (ex (p.took p.peek)).2).1,(bl ((bl (ex (p.took p.peek)).2).2.took sElse)).1],(bl ((bl (ex (p.took p.peek)).2).2.took sElse)).2):=by
 subst b;rw[cO a];rw[cO (lJ aE)]at a|-;unfold stmtB;simp only[];rw[if_pos aE,if_pos ⟨h,a⟩]
theorem SC{ex bl:PS->Nd×PS}{p:PS}{k:Int}(b:kindP p.peek=k)(h:k=11\/k=12)(a:k=11->(bl (ex (p.took p.peek)).2).2.is sElse=false):
 stmtB ex bl p=(.mk k [] 0 [(ex (p.took p.peek)).1,(bl (ex (p.took p.peek)).2).1],(bl (ex (p.took p.peek)).2).2):=by
 subst b;rw[cO (lJ aE)]at a|-;unfold stmtB;simp only[];rw[if_pos h,if_neg (λq=>by rw[a q.1]at q;exact absurd q.2 bC)]
theorem Ku{a b:PS->Nd×PS}{p:PS}{k:Int}(c:kindP p.peek=k)(h:12<k):stmtB a b p=((cmdP a k (p.took p.peek)).1,(cmdP a k (p.took p.peek)).2.need [59]):=by
 subst c;rw[cO (lJ aE)];unfold stmtB;simp only[];rw[if_neg aE,if_pos h]
theorem Cs{a b:PS->Nd×PS}{p:PS}{k:Int}(e:kindP p.peek=k)(c:¬(k=11\/k=12))(h:¬12<k)(d:p.peek.take 1=[36]):stmtB a b p=(.mk 9 (localP p).1 0 [(a ((localP p).2.need [61])).1],(a ((localP p).2.need [61])).2.need [59]):=by
 subst e;unfold stmtB;simp only[];rw[if_neg c,if_neg h];rw[(lI d).1];rfl
theorem Ct{a c:PS->Nd×PS}{p:PS}{k:Int}(f:kindP p.peek=k)(d:¬(k=11\/k=12))(h:¬12<k)(b:¬p.peek.take 1=[36]):stmtB a c p=(.mk 10 [] 0 [(placeP p).1,(a ((placeP p).2.need [61])).1],(a ((placeP p).2.need [61])).2.need [59]):=by
 subst f;unfold stmtB;simp only[];rw[if_neg d,if_neg h];split
 .rename_i r e;rw[e]at b;exact absurd rfl b
 .rfl
theorem iX{p:PS}{s:bA}:(p.need s).l.length<=p.l.length:=by
 unfold PS.need;split
 .exact eN
 .rw[pZ];exact A1 _
theorem GC{m:Nat}{a c:PS->Nd×PS}(x:Stk a)(N:Stk c)(n:Rt (m+1) isExprK a)(w:Rt m isBlockK c):PK (m+1) (stmtB a c):=λp M h _=>by
 by_cases l:(stmtB a c p).2.e=0
 .right;obtain⟨k,f⟩:∃k,kindP p.peek=k:=⟨_,rfl⟩;by_cases r:k=11\/k=12
  .have b:=lJ (p:=p) aE;have g:=gQ b;rw[<-cO b]at g;have o:=eM (s:=p.peek) h;obtain⟨v,C,_⟩:=n (p.took p.peek) aE o;obtain⟨L,A,_⟩:=w (a (p.took p.peek)).2 aE C;by_cases i:k=11/\(c (a (p.took p.peek)).2).2.is sElse=true
   .rw[EW f i.1 i.2];have E:=gQ i.2;rw[<-cO i.2]at E;obtain⟨B,_,_⟩:=w ((c (a (p.took p.peek)).2).2.took sElse) aE (eM A);show(c ((c (a (p.took p.peek)).2).2.took sElse)).2.l.length<p.l.length;omega
   .rw[SC f r (λq=>by
     cases z:(c (a (p.took p.peek)).2).2.is sElse with
     |false=>rfl
     |true=>exact absurd ⟨q,z⟩ i)]
    show(c (a (p.took p.peek)).2).2.l.length<p.l.length;omega
  .by_cases t:12<k
   .have b:=lJ (p:=p) aE;have g:=gQ b;rw[<-cO b]at g;have o:=eM (s:=p.peek) h;obtain⟨B,_,_⟩:=Sk (m:=m+1) x n (k:=k) (f▸Bg (s:=p.peek) aE) (p.took p.peek) aE o;rw[Ku f t];have:=iX (p:=(cmdP a k (p.took p.peek)).2) (s:=[59]);show((cmdP a k (p.took p.peek)).2.need [59]).l.length<p.l.length;omega
   .by_cases j:p.peek.take 1=[36]
    .obtain⟨O,D⟩:=lI j;have b:p.is p.peek=true:=fK.2 ⟨λe=>(by rw[e]at j;cases j),rfl⟩;have g:=gQ b;rw[<-cO b]at g;rw[Cs f r t j,D];have F:=iX (p:=p.took p.peek) (s:=[61]);obtain⟨v,_,_⟩:=n ((p.took p.peek).need [61]) aE (cE (eM h)).2;have G:=iX (p:=(a ((p.took p.peek).need [61])).2) (s:=[59]);show((a ((p.took p.peek).need [61])).2.need [59]).l.length<p.l.length;omega
    .rw[Ct f r t j]at l|-;have l:((a ((placeP p).2.need [61])).2.need [59]).e=0:=l;have u:=x _ (need_e l).2;have d:=(need_e u).2;have S:(placeP p).2.l.length<p.l.length:=by
      unfold placeP at d|-;have y:(nameP p).2.e=0->(nameP p).2.l.length<p.l.length:=λz=>by
       cases q:isNameB p.peek with
       |false=>rw[rZ q]at z;exact absurd z (fail_e bF)
       |true=>
        have b:p.is p.peek=true:=fK.2 ⟨λe=>(by rw[e]at q;cases q),rfl⟩;have g:=gQ b;rw[wE q,cO b];simp only;omega
      have H:=dE h;split at d
      .rename_i z;rw[if_pos z];have J:=nameP_stk _ d;have K:(nameP p).2.e=0:=J;have Q:=(dE (p:=(nameP p).2.skip) (dJ H.2.1)).1;have P:=eN (p:=(nameP p).2);have:=y K;simp only;omega
      .rename_i z;rw[if_neg z];exact y d
     have F:=iX (p:=(placeP p).2) (s:=[61]);have I:=(mX (p.l.length+1) p (A0 _) h).2.1;obtain⟨v,_,_⟩:=n ((placeP p).2.need [61]) aE (cE I).2;have G:=iX (p:=(a ((placeP p).2.need [61])).2) (s:=[59]);show((a ((placeP p).2.need [61])).2.need [59]).l.length<p.l.length;omega
 .exact .inl l
section
attribute[local simp] aW bJ bE aR
attribute[local simp] lB.cond Nd.d_eq nd_t nd_dr nd_td ndsD aX bO dL eI Cn Co Cp pZ Kt
def Fs(T:List Tk)(n:Nat)(x:PS->Nd×PS):Prop:=∀q:PS,q.l.length<n->lA T q->lA T (x q).2/\(x q).2.l.length<=q.l.length
theorem lA.goodT{T:List Tk}{q:PS}(f:lA T q)(a:bT T):bT q.l:=λt b=>a t (f.suf.mem b)
theorem sF{p:PS}{w:bA}(h:p.is w=true):(p.took w).l.length+1=p.l.length:=by rw[cO h];exact gQ h
theorem Kv{p:PS}{w:bA}:(p.took w).l.length<=p.l.length:=by
 unfold PS.took;split
 .exact eN
 .exact A1 _
theorem Fs.place{T:List Tk}(a:bT T)(n:Nat):Fs T n placeP:=λq h f=>⟨f.place,(mX n q h (f.goodT a)).1⟩
theorem Fs.chainF{T:List Tk}{m:Nat}{lv:Int}{x:PS->Nd×PS}(b:Fs T m x):∀(f:Nat) (n:Nd) (p:PS),p.l.length<m->lA T p->lA T (chainF lv x f n p).2/\(chainF lv x f n p).2.l.length<=p.l.length
 |0,_,p,_,hf=>⟨hf,A1 _⟩
 |f+1,n,p,hm,hf=>by
  rw[Go.Eng.chainF];split
  .exact⟨hf,A1 _⟩
  .split
   .rename_i h;rw[IH h];exact⟨hf,A1 _⟩
   .rename_i h;have a:0<=opI lv p.peek:=by have:¬opI lv p.peek<0:=h;omega
    rw[Br a];have i:=sF (wF a).2.1;obtain⟨c,g⟩:=b (p.took p.peek) aE hf.took;obtain⟨d,e⟩:=Fs.chainF (lv:=lv) b f (.mk (26+(opI lv p.peek)) [] 0 [n,(x (p.took p.peek)).1]) (x (p.took p.peek)).2 aE c;exact⟨d,B0 e aE⟩
theorem Cu{T:List Tk}{m:Nat}{lv:Int}{x:PS->Nd×PS}(a:Fs T m x):Fs T m (chainP lv x):=λq h f=>by
 obtain⟨b,d⟩:=a q h f;obtain⟨c,e⟩:=Fs.chainF (lv:=lv) a ((x q).2.l.length+1) (x q).1 (x q).2 aE b;exact⟨c,by unfold chainP;omega⟩
theorem Fs.fact{T:List Tk}(b:bT T){n:Nat}{a:PS->Nd×PS}(e:Fs T n a):Fs T (n+1) (factP a):=λq h f=>by
 have c:=f.goodT b;unfold factP;split
 .rename_i z;have i:=gQ z;obtain⟨d,g⟩:=e q.skip aE f.skip;exact⟨d.need,by have:=iX (p:=(a q.skip).2) (s:=[41]);simp only;omega⟩
 .split
  .exact⟨f.skip,eN⟩
  .split
   .split
    .exact⟨f.numeral,(fE c).1⟩
    .split
     .exact⟨f.local,(eS c).1⟩
     .exact Fs.place b (n+1) q h f
   .exact Fs.place b (n+1) q h f
theorem Fs.exprB{T:List Tk}(g:bT T){n:Nat}{a:PS->Nd×PS}(i:Fs T n a):Fs T (n+1) (exprB a):=λq h f=>by
 have c:Fs T (n+1) (sumP a):=Cu (Cu (Fs.fact g i));obtain⟨b,d⟩:=c q h f;unfold Go.Eng.exprB;simp only[];by_cases z:0<=opI 1 (sumP a q).2.peek
 .rw[if_pos (show 0<=(opP 1 (sumP a q).2).1 from z),Br z];have k:=sF (wF z).2.1;obtain⟨e,j⟩:=c ((sumP a q).2.took (sumP a q).2.peek) aE b.took;exact⟨e,by simp only;omega⟩
 .rw[if_neg (show¬0<=(opP 1 (sumP a q).2).1 from z),IH aE];exact⟨b,d⟩
theorem Kw{T:List Tk}(a:bT T):∀n,Fs T n (exprP true n)
 |0=>λq h _=>absurd h (A2 _)
 |n+1=>λq h f=>by
  rw[exprP];split
  .exact⟨f,A1 _⟩
  .exact Fs.exprB a (Kw a n) q h f
structure RR(s:bA)(T:List Tk)(n:Nat)(g:FuncId)(x:PS->Nd×PS):Prop where
 ok:∀q:PS,q.l.length<n->lA T q->iP prog g [.bx 0 0] (eI s T q) (eI s T (x q).2) (.d (x q).1.d)
 fs:Fs T n x
theorem aCr(s:bA):opI 3 s=if s=[42]then 5 else -1:=by
 by_cases h:s=[42]
 .subst h;rfl
 .rw[if_neg h];simp[opI,opsL,A7,List.range.loop,Ne.symm h,h]
theorem Ze(s:bA):opI 2 s=if s=[43]then 3 else if s=[45]then 4 else -1:=by
 by_cases h:s=[43]
 .subst h;rfl
 .rw[if_neg h];by_cases c:s=[45]
  .subst c;rfl
  .rw[if_neg c];have a:=Ne.symm h;have b:=Ne.symm c;simp[opI,opsL,A7,List.range.loop,a,b]
theorem aD8(s:bA):opI 1 s=if s=[60]then 0 else if s=[60,61]then 1 else if s=[61,61]then 2 else -1:=by
 by_cases h:s=[60]
 .subst h;rfl
 .rw[if_neg h];by_cases d:s=[60,61]
  .subst d;rfl
  .rw[if_neg d];by_cases e:s=[61,61]
   .subst e;rfl
   .rw[if_neg e];have a:=Ne.symm h;have b:=Ne.symm d;have c:=Ne.symm e;simp[opI,opsL,A7,List.range.loop,a,b,c]
theorem IK{b:Int}{x:PS->Nd×PS}{f:Nat}{n:Nd}{q:PS}(a:q.l.length<f)(h:opI b q.peek<0):chainF b x f n q=(n,q):=by
 by_cases e:q.e=0
 .rw[Gy a e h,IH h]
 .exact II a e
theorem MJ{a:Int}{x:PS->Nd×PS}{f:Nat}{n:Nd}{q:PS}(b:q.l.length<f)(h:0<=opI a q.peek):
 chainF a x f n q=chainF a x (f-1) (.mk (26+opI a q.peek) [] 0 [n,(x (q.took q.peek)).1]) (x (q.took q.peek)).2:=by
 have c:q.peek≠[]:=(fK.1 (wF h).2.1).1;rw[MF b (Za c) h,Br h]
theorem aBz(w:bA):firstIs digitB w=true↔(¬w=[]/\digitB (w[0]?.getD 0)=true):=by
 cases w with
 |nil=>simp[firstIs]
 |cons c r=>simp[firstIs]
theorem IL(s:bA)(T:List Tk)(p:PS)(c:Cm s T)(f:lA T p):iP prog 372 [.bx 0 0] (eI s T p) (eI s T (placeP p).2) (.d (placeP p).1.d):=by
 unfold eI;refine fJ func372 rfl ntmps372 results372 λh X b=>?_;apply aD;simp;refine cP (oh 5 (eI s T (nameP p).2) (.d (.str (nameP p).1))) ?_;simp;refine⟨sE s T p c f,?_⟩;apply aF;refine cP (oh 8 (eI s T ((nameP p).2.took [46])) (.d (.bool ((nameP p).2.is [46])))) ?_;simp;refine⟨yV s T (nameP p).2 c f.name [46] bC,?_⟩;apply aK;simp;refine⟨λa=>?_,λa=>?_⟩
 .apply aD;simp;have d:=qP (f.good c);have g:=qP (p:=(nameP p).2.took [46]) (f.name.took.good c);refine fL.rd [[0],[0],[0]] [[],[],[],[],[0],[],[],[3]] (oh 14 (eI s T (nameP ((nameP p).2.took [46])).2) (.d (.str (nameP ((nameP p).2.took [46])).1))) ?_;simp;refine⟨⟨⟨aE,sE s T _ c f.name.took⟩,aE⟩,?_⟩;apply aD;simp;apply aH;simp;have e:=IG a;refine bH (x:=(placeP p).1.d) (by simp[e]) ?_;simp;exact aA b [0] [(0,0)] (hH:=by simp[e])
 .apply aG;simp;apply aD;simp;apply aH;simp;have e:=DZ a;refine bH (x:=(placeP p).1.d) (by simp[e]) ?_;simp;exact aA b [0] [(0,0)] (hH:=by simp[e])
theorem Zf(s:bA)(T:List Tk)(c:Cm s T)(p:PS)(n:Nat)(b:PS->Nd×PS)(r:RR s T n 368 b)(F:p.l.length<n+1)(f:lA T p):iP prog 374 [.bx 0 0] (eI s T p) (eI s T (factP b p).2) (.d (factP b p).1.d):=by
 unfold eI;have A:=f.good c;have B:=nR A;refine fJ func374 rfl ntmps374 results374 λG X j=>?_;apply aD;simp;apply aF;refine cP (oh 6 (eI s T (p.took [40])) (.d (.bool (p.is [40])))) ?_;simp;refine⟨yV s T p c f [40] bC,?_⟩;apply aK;simp;refine⟨λd=>?_,λd=>?_⟩
 .apply aF;have E:=sF d;have C:=r.ok (p.took [40]) aE f.took;have v:=(r.fs (p.took [40]) aE f.took).1;refine aU (oh 8 (eI s T (b (p.took [40])).2) (.d (b (p.took [40])).1.d)) ?_;simp;refine⟨by simpa using C,?_⟩;apply aF;have m:=jE s T (b (p.took [40])).2 c v [41] bC;refine aU (oh 10 (eI s T ((b (p.took [40])).2.need [41])) (.tup [])) ?_;simp;refine⟨m,?_⟩;apply aD;simp;apply aH;simp;have e:=Ea (ex:=b) d;exact aA j [0] [(0,0)] (by simp[e]) (by simp[e])
 .have t:p.took [40]=p:=iF (by simp[d]);simp only[t];apply aG;simp;apply aF;refine cP (oh 13 (eI s T (p.took [107,105,110,100])) (.d (.bool (p.is [107,105,110,100])))) ?_;simp;refine⟨yV s T p c f [107,105,110,100] bC,?_⟩;apply aK;simp;refine⟨λi=>?_,λi=>?_⟩
  .apply aD;simp;apply aH;simp;have e:=Gz (ex:=b) d i;refine bH (x:=(factP b p).1.d) (by simp[e]) ?_;simp;exact aA j [0] [(0,0)] (hH:=by simp[e,sKind])
  .have u:p.took [107,105,110,100]=p:=iF (by simp[i]);simp only[u];apply aG;simp;refine cP (oh 16 (eI s T p) (.d (.str p.peek))) ?_;simp;refine⟨kG s T p c f,?_⟩;apply eG;have y:=rB p.peek 0 aE;refine aU (og 18 (.plain ⟨.d (.bool (firstIs digitB p.peek)),true⟩)) ?_;simp;refine⟨by simpa using y,?_⟩;apply aK;simp;refine⟨λh=>?_,λh=>?_⟩
   .apply aF;have o:=kH s T p c f 32 0 999 (.inl rfl) rfl;refine aU (oh 20 (eI s T (numeralP 32 p).2) (.d (aJ (numeralP 32 p).1))) ?_;simp;refine⟨o,?_⟩;apply aH;simp;have e:=Eb (ex:=b) d i ((aBz _).1 h).1 ((aBz _).1 h).2;refine bH (x:=(factP b p).1.d) (by simp[e]) ?_;simp;exact aA j [0] [(0,0)] (hH:=by simp[e])
   .apply aG;simp;apply aF;apply aP;simp;refine⟨λD w=>?_,λg=>?_⟩
    .apply aF;have l:=uT s T p c f;refine aU (oh 31 (eI s T (localP p).2) (.d (.str (localP p).1))) ?_;simp;refine⟨l,?_⟩;apply aH;simp;have k:¬p.peek=[]->digitB (p.peek[0]?.getD 0)=false:=λa=>by
      cases e:digitB (p.peek[0]?.getD 0)with
      |false=>rfl
      |true=>rw[(aBz _).2 ⟨a,e⟩]at h;cases h
     have e:=Ec (ex:=b) d i k (at0.2 ⟨aE,w⟩);refine bH (x:=(factP b p).1.d) (by simp[e]) ?_;simp;exact aA j [0] [(0,0)] (hH:=by simp[e])
    .apply aG;simp;apply aF;have q:=IL s T p c f;refine aU (oh 34 (eI s T (placeP p).2) (.d (placeP p).1.d)) ?_;simp;refine⟨by simpa using q,?_⟩;apply aH;simp;have k:¬p.peek=[]->digitB (p.peek[0]?.getD 0)=false:=λa=>by
      cases e:digitB (p.peek[0]?.getD 0)with
      |false=>rfl
      |true=>rw[(aBz _).2 ⟨a,e⟩]at h;cases h
     have e:=Ee (ex:=b) d i k (λz=>by have:=at0.1 z;have:=g aE;omega);exact aA j [0] [(0,0)] (by simp[e]) (by simp[e])
theorem RR.fact{s:bA}{T:List Tk}(c:Cm s T){n:Nat}{a:PS->Nd×PS}(b:RR s T n 368 a):RR s T (n+1) 374 (factP a):=
 ⟨λq d f=>Zf s T c q n a b d f,Fs.fact c.hg b.fs⟩
theorem Zg(s:bA)(T:List Tk)(c:Cm s T)(p:PS)(n:Nat)(x:PS->Nd×PS)(h:RR s T n 374 x)(m:p.l.length<n)(f:lA T p):iP prog 373 [.bx 0 0] (eI s T p) (eI s T (chainP 3 x p).2) (.d (chainP 3 x p).1.d):=by
 unfold eI;refine fJ func373 rfl ntmps373 results373 λy X j=>?_;apply aD;simp;apply aF;have t:=h.ok p m f;have l:=h.fs p m f;refine aU (oh 5 (eI s T (x p).2) (.d (x p).1.d)) ?_;simp;refine⟨by simpa using t,?_⟩;apply cR;refine aO (ι:=ChS) (λ⟨f,n,q⟩=>aQ [(0,.bx 0 0),(2,.bx 2 0),(3,.bx 3 0)]) (λ⟨f,n,q⟩=>aL [(0,.box false [.d (.str s),.d (.sl (T.map Tk.r)),.d (aJ ((T.length:Int)- q.l.length)),.d (.bool (!decide (q.e=0))),.d (.bool (decide (q.e=5)))]),(2,.box false [.d (aJ 0),.d (.str []),.d (aJ 0),.nl]),(3,.box false [.d (aJ n.kind),.d (.str n.text),.d (aJ n.n),.d (ndsD n.kids)])]) (λ⟨f,n,q⟩=>q.l.length<f/\lA T q/\q.l.length<=p.l.length/\chainP 3 x p=chainF 3 x f n q) (λ⟨f,n,q⟩=>q.l.length) ⟨(x p).2.l.length+1,(x p).1,(x p).2⟩ (aA j [0,2,3] [(0,0),(2,2),(3,3)]) (⟨A0 _,l.1,l.2,rfl⟩) λ⟨f,n,q⟩ a=>?_;apply eG;have r:=yV s T q c a.2.1 [42] bC;refine aU (oh 7 (eI s T (q.took [42])) (.d (.bool (q.is [42])))) ?_;simp;refine⟨r,?_⟩;apply aK;simp;refine⟨λd=>?_,λd=>?_⟩
 .apply aG;simp;apply aM;have v:=sF d;have g:=(fK.1 d).2;have u:=a.2.2.1;have k:=h.ok (q.took [42]) aE a.2.1.took;have b:=h.fs (q.took [42]) aE a.2.1.took;refine fL.rd [[0]] [[],[],[0],[11],[],[3]] (oh 10 (eI s T (x (q.took [42])).2) (.d (x (q.took [42])).1.d)) ?_;simp;refine⟨⟨by simpa using k,bF⟩,?_⟩;refine AX (bV 3 [11] (fz:=false) (cs:=[.d (aJ 31),.d (.str []),.d (aJ 0),.ow 11 0 2]) (ds:=[aJ 31,.str [],aJ 0,.sl [n.d,(x (q.took [42])).1.d]]) bC bC bC (by simp[bI.mut])) ?_;simp;refine QT.mk ⟨f-1,.mk 31 [] 0 [n,(x (q.took [42])).1],(x (q.took [42])).2⟩ (aA j [0,2,3] [(0,0),(2,2),(3,3)]) ?_ ?_
  .have w:=a.1;have u:=a.2.2.1;refine⟨?_,b.1,?_,?_⟩
   .show(x (q.took [42])).2.l.length<f-1;have:=b.2;omega
   .show(x (q.took [42])).2.l.length<=p.l.length;have:=b.2;omega
   .rw[a.2.2.2,MJ a.1 (by rw[aCr,g];decide),g];rfl
  .have:=b.2;show(x (q.took [42])).2.l.length<q.l.length;omega
 .have o:q.took [42]=q:=iF (by simp[d]);simp only[o];apply bG;simp;apply aD;simp;apply aH;simp;have i:opI 3 q.peek<0:=by
   rw[aCr,if_neg (λz=>by rw[fK.2 ⟨bC,z⟩]at d;cases d)];decide
  have e:chainP 3 x p=(n,q):=by rw[a.2.2.2];exact IK a.1 i
  exact aA j [0] [(0,0)] (by simp[e]) (by simp[e])
theorem Va{c:Prop}[Decidable c]{f:Nat->bI}{A:bI}{x:Nat}(h:f 0=A):cA f (if c then []else [(0,A)]) x=f x:=by
 by_cases a:c
 .rw[if_pos a];rfl
 .rw[if_neg a];subst h;simp only[cA,cK];split
  .rename_i e;rw[e]
  .rfl
theorem RR.prod{s:bA}{T:List Tk}(c:Cm s T){n:Nat}{x:PS->Nd×PS}(a:RR s T n 374 x):RR s T n 373 (chainP 3 x):=
 ⟨λq b f=>Zg s T c q n x a b f,Cu a.fs⟩
structure KC6 where
 k:Int
theorem SD{q:bA}:(q=[43]\/q=[45])↔0<=opI 2 q:=by
 rw[Ze];by_cases h:q=[43]
 .simp[h]
 .by_cases a:q=[45]
  .simp[a]
  .simp[h,a]
theorem aBA(s:bA)(T:List Tk)(c:Cm s T)(p:PS)(n:Nat)(x:PS->Nd×PS)(l:RR s T n 373 x)(A:p.l.length<n)(f:lA T p):iP prog 371 [.bx 0 0] (eI s T p) (eI s T (chainP 2 x p).2) (.d (chainP 2 x p).1.d):=by
 unfold eI;have E:=c.ht;refine fJ func371 rfl ntmps371 results371 λJ X j=>?_;apply aD;simp;apply aF;have F:=l.ok p A f;have w:=l.fs p A f;refine aU (oh 6 (eI s T (x p).2) (.d (x p).1.d)) ?_;simp;refine⟨by simpa using F,?_⟩;apply cR;refine aO (ι:=ChS) (λ⟨f,n,q⟩=>aQ [(0,.bx 0 0),(2,.bx 2 0),(3,.bx 3 0)]) (λ⟨f,n,q⟩=>aL [(0,.box false [.d (.str s),.d (.sl (T.map Tk.r)),.d (aJ ((T.length:Int)- q.l.length)),.d (.bool (!decide (q.e=0))),.d (.bool (decide (q.e=5)))]),(2,.box false [.d (aJ 0),.d (.str []),.d (aJ 0),.nl]),(3,.box false [.d (aJ n.kind),.d (.str n.text),.d (aJ n.n),.d (ndsD n.kids)])]) (λ⟨f,n,q⟩=>q.l.length<f/\lA T q/\q.l.length<=p.l.length/\chainP 2 x p=chainF 2 x f n q) (λ⟨f,n,q⟩=>q.l.length) ⟨(x p).2.l.length+1,(x p).1,(x p).2⟩ (aA j [0,2,3] [(0,0),(2,2),(3,3)]) (⟨A0 _,w.1,w.2,rfl⟩) λ⟨f,n,q⟩ a=>?_;apply eG;have y:=kG s T q c a.2.1;refine aU (λ|8=>some (.gen ⟨[(0,0)],[],[],eI s T q,.d (.str q.peek)⟩)|12=>some (.gen ⟨[(0,0)],[],[],eI s T q,.d (.str q.peek)⟩)|_=>none) ?_;simp[Va];refine⟨⟨y,λ_=>y⟩,?_⟩;apply aK;simp;refine⟨λg=>?_,λB C=>?_⟩
 .have i:=SD.1 g;have d:=(wF i).2.1;have h:=(fK.1 d).1;have H:=sF d;have u:=sZ (T:=T) h;have D:=a.2.1.pos h;have G:=a.2.2.1;have v:=l.ok (q.took q.peek) aE a.2.1.took;have b:=l.fs (q.took q.peek) aE a.2.1.took;apply aG;simp;apply aM;apply aD;simp;refine aY (ι:=KC6) (λ⟨k⟩=>aQ [(0,.bx 0 0),(2,.bx 2 0),(3,.bx 3 0),(4,.d (aJ k))]) (λ⟨k⟩=>aL [(0,.box false [.d (.str s),.d (.sl (T.map Tk.r)),.d (aJ ((T.length:Int)- q.l.length)),.d (.bool (!decide (q.e=0))),.d (.bool (decide (q.e=5)))]),(2,.box false [.d (aJ 0),.d (.str []),.d (aJ 0),.nl]),(3,.box false [.d (aJ n.kind),.d (.str n.text),.d (aJ n.n),.d (ndsD n.kids)])]) (λ⟨k⟩=>k=26+opI 2 q.peek) ?_ λ⟨k⟩ o=>?_
  .apply aF;have r:=kG s T q c a.2.1;refine aU (oh 16 (eI s T q) (.d (.str q.peek))) ?_;simp;refine⟨r,?_⟩;apply aK;simp;refine⟨λm=>?_,λm=>?_⟩
   .apply aI;simp;refine aAV.mk ⟨30⟩ (aA j [0,2,3,4] [(0,0),(2,2),(3,3)]) ?_;rw[Ze,m];decide
   .apply aG;simp;refine aAV.mk ⟨29⟩ (aA j [0,2,3,4] [(0,0),(2,2),(3,3)]) ?_;rw[Ze,if_pos (g.resolve_right m)];decide
  .apply aD;simp;refine⟨aE,?_⟩;simp only[<-u];refine fL.rd [[0,29],[0]] [[],[],[],[0],[29],[],[3]] (oh 28 (eI s T (x (q.took q.peek)).2) (.d (x (q.took q.peek)).1.d)) ?_;simp;refine⟨⟨by simpa [cO d]using v,bF⟩,?_⟩;simp only[o];refine AX (bV 3 [29] (fz:=false) (cs:=[.d (aJ (26+opI 2 q.peek)),.d (.str []),.d (aJ 0),.ow 29 0 2]) (ds:=[aJ (26+opI 2 q.peek),.str [],aJ 0,.sl [n.d,(x (q.took q.peek)).1.d]]) bC bC bC (by simp[bI.mut])) ?_;simp;refine QT.mk ⟨f-1,.mk (26+opI 2 q.peek) [] 0 [n,(x (q.took q.peek)).1],(x (q.took q.peek)).2⟩ (aA j [0,2,3] [(0,0),(2,2),(3,3)]) ?_ ?_
   .have I:=a.1;have G:=a.2.2.1;have:=b.2;refine⟨?_,b.1,?_,?_⟩
    .show(x (q.took q.peek)).2.l.length<f-1;omega
    .show(x (q.took q.peek)).2.l.length<=p.l.length;omega
    .rw[a.2.2.2,MJ a.1 i]
   .have:=b.2;show(x (q.took q.peek)).2.l.length<q.l.length;omega
 .apply bG;simp;apply aD;simp;apply aH;simp;have t:opI 2 q.peek<0:=by
   have z:¬0<=opI 2 q.peek:=λz=>(SD.2 z).elim B C;omega
  have e:chainP 2 x p=(n,q):=by rw[a.2.2.2];exact IK a.1 t
  exact aA j [0] [(0,0)] (by simp[e]) (by simp[e])
theorem RR.sum{s:bA}{T:List Tk}(c:Cm s T){n:Nat}{x:PS->Nd×PS}(a:RR s T n 373 x):RR s T n 371 (chainP 2 x):=
 ⟨λq b f=>aBA s T c q n x a b f,Cu a.fs⟩
def Bt:List bA:=[[60],[60,61],[61,61]]
theorem SE{i:Nat}(h:i<3):Bt[i]?.getD []≠[]:=by
 match i,h with
 |0,_=>decide
 |1,_=>decide
 |2,_=>decide
theorem aDg{w:bA}{i:Nat}(h:i<3)(a:w=Bt[i]?.getD []):opI 1 w=i:=by
 subst a
 match i,h with
 |0,_=>decide
 |1,_=>decide
 |2,_=>decide
theorem Zh{w:bA}(h:∀j,j<3->w≠Bt[j]?.getD []):opI 1 w<0:=by
 have a:w≠[60]:=h 0 bF;have b:w≠[60,61]:=h 1 bF;have d:w≠[61,61]:=h 2 bF;rw[aD8,if_neg a,if_neg b,if_neg d];decide
theorem Zi(i:Nat)(h:i<3):([DV.str [60],DV.str [60,61],DV.str [61,61]]:List DV)[i]?.getD default=.str (Bt[i]?.getD []):=by
 match i,h with
 |0,_=>rfl
 |1,_=>rfl
 |2,_=>rfl
theorem MK(s:bA)(T:List Tk)(c:Cm s T)(p:PS)(n:Nat)(a:PS->Nd×PS)(t:RR s T n 371 (sumP a))(y:p.l.length<n)(f:lA T p):iP prog 368 [.bx 0 0] (eI s T p) (eI s T (if p.e=0 then exprB a p else(zeroNd,p)).2) (.d (if p.e=0 then exprB a p else(zeroNd,p)).1.d):=by
 unfold eI;refine fJ func368 rfl ntmps368 results368 λF X m=>?_;apply aD;simp;apply aF;apply aP;simp;refine⟨λq=>?_,λq=>?_⟩
 .apply aD;simp;apply aH;simp;have e:(if p.e=0 then exprB a p else(zeroNd,p))=(zeroNd,p):=if_neg q;rw[e];refine bH (x:=zeroNd.d) (by simp[zeroNd]) ?_;simp;exact aA m [0] [(0,0)]
 .apply aG;simp;apply aF;have D:=t.ok p y f;have r:=t.fs p y f;refine aU (oh 12 (eI s T (sumP a p).2) (.d (sumP a p).1.d)) ?_;simp;refine⟨by simpa using D,?_⟩;apply aD;simp;refine⟨bF,?_⟩;apply dA;simp;apply aM;refine aO (ι:=Nat) (λi=>aQ [(0,.bx 0 0),(2,.bx 2 0),(3,.bx 3 0),(4,.ow 13 0 3),(5,.d (aJ i))]) (λi=>aL [(0,.box false [.d (.str s),.d (.sl (T.map Tk.r)),.d (aJ ((T.length:Int)-(sumP a p).2.l.length)),.d (.bool (!decide ((sumP a p).2.e=0))),.d (.bool (decide ((sumP a p).2.e=5)))]),(2,.box false [.d (aJ 0),.d (.str []),.d (aJ 0),.nl]),(3,.box false [.d (aJ (sumP a p).1.kind),.d (.str (sumP a p).1.text),.d (aJ (sumP a p).1.n),.d (ndsD (sumP a p).1.kids)]),(13,.row false 1 [.str [60],.str [60,61],.str [61,61]])]) (λi=>i<=3/\∀j,j<i->(sumP a p).2.peek≠Bt[j]?.getD []) (λi=>3-i) 0 (aA m [0,2,3,4,5] [(0,0),(2,2),(3,3),(13,13)]) (⟨B1 _,λj h=>absurd h (A2 j)⟩) λi l=>?_;apply aF;apply aP;simp;refine⟨λA=>?_,λA=>?_⟩
  .apply aG;simp;apply cR;apply aF;have b:i<3:=aE;have B:=yV s T (sumP a p).2 c r.1 (Bt[i]?.getD []) (SE b);refine aU (oh 23 (eI s T ((sumP a p).2.took (Bt[i]?.getD []))) (.d (.bool ((sumP a p).2.is (Bt[i]?.getD []))))) ?_;simp[Zi i b];refine⟨⟨aE,B⟩,?_⟩;apply aK;simp;refine⟨λg=>?_,λg=>?_⟩
   .apply aF;have o:=(fK.1 g).2;have u:=aDg b o;have E:=sF g;have v:=t.ok ((sumP a p).2.took (Bt[i]?.getD [])) (by have:=r.2;omega) r.1.took;refine fL.rd [[0,29],[0,29],[0]] [[],[],[],[],[0],[29],[],[2]] (oh 28 (eI s T (sumP a ((sumP a p).2.took (Bt[i]?.getD []))).2) (.d (sumP a ((sumP a p).2.took (Bt[i]?.getD []))).1.d)) ?_;simp;refine⟨⟨⟨aE,by simpa using v⟩,bF⟩,?_⟩;apply aH;simp;have e:(if p.e=0 then exprB a p else(zeroNd,p))=exprB a p:=if_pos q;have k:exprB a p=(.mk (26+(i:Int)) [] 0 [(sumP a p).1,(sumP a ((sumP a p).2.took (Bt[i]?.getD []))).1],(sumP a ((sumP a p).2.took (Bt[i]?.getD []))).2):=by
     rw[Dn (by rw[Br aE];show 0<=opI 1 _;omega),Br aE,u,o]
    rw[e,k];refine bH (x:=(Nd.mk (26+(i:Int)) [] 0 [(sumP a p).1,(sumP a ((sumP a p).2.took (Bt[i]?.getD []))).1]).d) bC ?_;simp;exact aA m [0] [(0,0)]
   .have k:(sumP a p).2.took (Bt[i]?.getD [])=(sumP a p).2:=iF (by simp[g]);simp only[k];apply aG;simp;apply aI;simp;refine⟨aE,?_⟩;refine QT.mk (i+1) (aA m [0,2,3,4,5] [(0,0),(2,2),(3,3),(13,13)]) ?_ ?_
    .refine⟨aE,λj C=>?_⟩;by_cases e:j=i
     .subst e;exact λz=>by rw[fK.2 ⟨SE b,z⟩]at g;cases g
     .exact l.2 j aE
    .omega
  .apply bG;simp;apply aD;simp;apply aH;simp;have e:(if p.e=0 then exprB a p else(zeroNd,p))=exprB a p:=if_pos q;have d:=Zh (w:=(sumP a p).2.peek) (λj C=>l.2 j aE);have k:exprB a p=((sumP a p).1,(sumP a p).2):=by rw[Do (by rw[IH d];exact d),IH d]
   rw[e,k];exact aA m [0] [(0,0)]
theorem SF{s:bA}{T:List Tk}(c:Cm s T):∀n:Nat,RR s T n 368 (exprP true n)
 |0=>⟨λq h _=>absurd h (A2 _),λq h _=>absurd h (A2 _)⟩
 |n+1=>by
  have e:∀q,exprP true (n+1) q=if q.e=0 then exprB (exprP true n) q else(zeroNd,q):=λq=>by
   rw[exprP];by_cases h:q.e=0
   .rw[if_neg (by simp[h]),if_pos h]
   .rw[if_pos ⟨rfl,h⟩,if_neg h]
  refine⟨λq a f=>?_,Kw c.hg (n+1)⟩;rw[e];exact MK s T c q (n+1) (exprP true n) (((SF c n).fact c).prod c |>.sum c) a f
end
section
attribute[local simp] aW bJ bE aR
attribute[local simp] lB.cond Nd.d_eq nd_t nd_dr nd_td ndsD aX bO nU dV dL
theorem Ef(k:IntKind)(n:Int):(Value.int k n).oneCell'=true:=rfl
theorem Eg(x:ByteArray):(Value.string x).oneCell'=true:=rfl
theorem Eh(x:Option Addr)(a b:Nat):(Value.slice x a b).oneCell'=true:=rfl
theorem ML(a b c d:Value):(∀(i:Nat) (x:i<4),([a,b,c,d][i]'(x)).oneCell'=true)↔(a.oneCell'=true/\b.oneCell'=true/\c.oneCell'=true/\d.oneCell'=true):=by
 constructor
 .intro h;exact⟨h 0 bF,h 1 bF,h 2 bF,h 3 bF⟩
 .rintro⟨e,f,g,j⟩ i k
  match i,k with
  |0,_=>exact e
  |1,_=>exact f
  |2,_=>exact g
  |3,_=>exact j
attribute[local simp] nG Ef Eg Eh ML
theorem Vb{c:Prop}[Decidable c]{f:Nat->bI}{a b:PS}{x:Nat}(h:f 0=.box false [.d (.sl (b.l.map Tk.d)),.d (aJ b.e)]):
 cA f (if c then [(0,.box false [.d (.sl (a.l.map Tk.d)),.d (aJ a.e)])]else []) x=if x=0 then .box false [.d (.sl ((if c then a else b).l.map Tk.d)),.d (aJ (if c then a else b).e)]else f x:=by
 by_cases d:c
 .simp only[d,if_true,cA,cK]
 .simp only[d,if_false,cA];split
  .rename_i e;rw[e];exact h
  .rfl
structure KC where
 k:Int
structure StS where
 x:Nd
 q:PS
theorem PM(p:PS)(n:Nat)(a c:PS->Nd×PS)(r:nV (n+1) 285 a)(y:nV n 160 c)(U:p.l.length<n+1)(l:bT p.l):iP prog 235 [.bx 0 0] (dV p) (dV (stmtB a c p).2) (.d (stmtB a c p).1.d):=by
 unfold dV;refine fJ func235 rfl ntmps235 results235 λY X i=>?_;apply aD;simp;refine cP (oh 7 (dV p) (.d (.str p.peek))) ?_;simp;refine⟨nQ p,?_⟩;apply aD;simp;refine aY (ι:=KC) (λ⟨k⟩=>aQ [(0,.bx 0 0),(2,.bx 2 0),(3,.d (.str p.peek)),(4,.d (aJ k))]) (λ⟨k⟩=>aL [(0,.box false [.d (nU p.l),.d (aJ p.e)]),(2,.box false [.d (aJ 0),.d (.str []),.d (aJ 0),.nl])]) (λ⟨k⟩=>kindP p.peek=k) ?_ λ⟨k⟩ d=>?_
 .apply aP;simp;refine⟨λw=>?_,λw=>?_⟩
  .have I:=tK wordsL p.peek;have q2:=kR;rw[<-aBy w]at I;refine aU (og 12 (.plain ⟨.d (aJ (kindP p.peek)),true⟩)) ?_;simp[Bi];refine⟨⟨aE,I⟩,?_⟩;refine aAV.mk ⟨kindP p.peek⟩ (aA i [0,2,3,4] [(0,0),(2,2)]) ?_;rfl
  .apply aG;simp;refine aAV.mk ⟨-1⟩ (aA i [0,2,3,4] [(0,0),(2,2)]) ?_;exact Cr w
 .apply aD;simp;refine aY (ι:=StS) (λ⟨x,q⟩=>aQ [(0,.bx 0 0),(2,.bx 2 0),(5,.bx 5 0)]) (λ⟨x,q⟩=>aL [(0,.box false [.d (nU q.l),.d (aJ q.e)]),(2,.box false [.d (aJ 0),.d (.str []),.d (aJ 0),.nl]),(5,.box false [.d (aJ x.kind),.d (.str x.text),.d (aJ x.n),.d (ndsD x.kids)])]) (λ⟨x,q⟩=>stmtB a c p=(x,q.need [59])) ?_ λ⟨x,q⟩ h=>?_
  .apply aM;apply aP;simp;refine⟨λg=>?_,λQ S=>?_⟩
   .apply aF;have t:=lJ (p:=p) aE;have G:=gQ t;rw[<-cO t]at G;have u:=eM (s:=p.peek) l;refine aU (oh 39 (dV (p.took p.peek)) (.d (.bool (p.is p.peek)))) ?_;simp;refine⟨kS p p.peek,?_⟩;refine iU (fz:=false) (cs:=[.d (aJ k),.d (.str []),.d (aJ 0),.nl]) 5 3 1048 4 bF ⟨bC,bC,bC,?_⟩;simp;apply aF;have N:=r.ok (p.took p.peek) aE u;have J:=r.le (p.took p.peek) aE u;have M:=y.ok (a (p.took p.peek)).2 aE J.2;have P:=y.le (a (p.took p.peek)).2 aE J.2;refine fL.rd [[0,47],[0,47],[47],[47],[0,47],[47],[0,47],[0],[],[5],[5],[0,5,47,48,1048],[5],[5],[48],[48]] [[],[],[],[0],[],[0],[],[47],[48,1048],[],[48],[],[],[48],[],[5]] (λ|43=>some (.gen ⟨[(0,0)],[],[],dV (a (p.took p.peek)).2,.d (a (p.took p.peek)).1.d⟩)|45=>some (.gen ⟨[(0,0)],[],[],dV (c (a (p.took p.peek)).2).2,.d (c (a (p.took p.peek)).2).1.d⟩)|_=>none) ?_;simp;refine⟨⟨⟨by simpa using N,by simpa using M⟩,bF⟩,?_⟩;apply eG;have O:=kS (c (a (p.took p.peek)).2).2 sElse;refine aU (oh 57 (dV ((c (a (p.took p.peek)).2).2.took sElse)) (.d (.bool ((c (a (p.took p.peek)).2).2.is sElse)))) ?_;simp[Vb (b:=(c (a (p.took p.peek)).2).2)];refine⟨λ_=>O,?_⟩;apply aK;simp;refine⟨λm H=>?_,λm=>?_⟩
    .simp only[m,if_true];have L:=eM (s:=sElse) P.2;have W:((c (a (p.took p.peek)).2).2.took sElse).l.length<=(c (a (p.took p.peek)).2).2.l.length:=by rw[cO H];exact eN
     have A:=y.ok ((c (a (p.took p.peek)).2).2.took sElse) aE L;refine fL.rd [[0,64],[0,64],[64],[64],[0,64],[0],[],[5],[5],[65],[65]] [[],[],[],[0],[],[64],[65,48],[],[65],[],[5]] (oh 62 (dV (c ((c (a (p.took p.peek)).2).2.took sElse)).2) (.d (c ((c (a (p.took p.peek)).2).2.took sElse)).1.d)) ?_;simp;refine⟨by simpa using A,?_⟩;apply aD;simp;apply aH;simp;have e:=EW (ex:=a) (bl:=c) d m H;refine bH (x:=(stmtB a c p).1.d) (by simp[e,m]) ?_;simp;exact aA i [0] [(0,0)] (hH:=by simp[e])
    .have K:(if k=11 then(c (a (p.took p.peek)).2).2.took sElse else(c (a (p.took p.peek)).2).2)=(c (a (p.took p.peek)).2).2:=by
      split
      .rename_i z;exact iF (by simp[m z])
      .rfl
     simp only[K];apply aG;simp;apply aD;simp;apply aH;simp;have e:=SC (ex:=a) (bl:=c) d g m;refine bH (x:=(stmtB a c p).1.d) (by simp[e]) ?_;simp;exact aA i [0] [(0,0)] (hH:=by simp[e])
   .apply aP;simp;refine⟨λo=>?_,λo=>?_⟩
    .apply aF;have t:=lJ (p:=p) (by have:=d;simp only at this;omega);have G:=gQ t;rw[<-cO t]at G;have u:=eM (s:=p.peek) l;refine aU (oh 74 (dV (p.took p.peek)) (.d (.bool (p.is p.peek)))) ?_;simp;refine⟨kS p p.peek,?_⟩;have V:=Bg (s:=p.peek) (by have:=d;simp only at this;omega);have B:=PL (p.took p.peek) (n+1) a k (by have:=d;simp only at this;omega) r aE u;refine aU (og 76 (.gen ⟨[(0,0),(5,1)],[],[],cdH (cmdP a k (p.took p.peek)).2 (cmdP a k (p.took p.peek)).1,.tup []⟩)) ?_;simp[cdH];refine⟨by simpa [cdH]using B,?_⟩;refine aAV.mk ⟨(cmdP a k (p.took p.peek)).1,(cmdP a k (p.took p.peek)).2⟩ (aA i [0,2,5] [(0,0),(2,2),(5,5)]) ?_;exact Ku d o
    .apply aF;have D:=qO p.peek [36] (by have:=nR l;omega) bF;refine aU (og 79 (.plain ⟨.d (.bool (decide (p.peek.take 1=[36]))),true⟩)) ?_;simp;refine⟨D,?_⟩;apply aK;simp;refine⟨λj=>?_,λj=>?_⟩
     .apply aF;have C:=Cl p l;have gl:=eS l;refine aU (oh 81 (dV (localP p).2) (.d (.str (localP p).1))) ?_;simp;refine⟨C,?_⟩;apply aF;have f:=lR (localP p).2 [61];have v:=cE (s:=[61]) gl.2.1;refine aU (oh 84 (dV ((localP p).2.need [61])) (.tup [])) ?_;simp;refine⟨f,?_⟩;have F:=r.ok ((localP p).2.need [61]) (by have:=gl.1;omega) v.2;refine aU (oh 86 (dV (a ((localP p).2.need [61])).2) (.d (a ((localP p).2.need [61])).1.d)) ?_;simp;refine⟨by simpa using F,?_⟩;refine iT (bV 5 [87] (fz:=false) (cs:=[.d (aJ 9),.d (.str (localP p).1),.d (aJ 0),.ow 87 0 1]) (ds:=[aJ 9,.str (localP p).1,aJ 0,.sl [(a ((localP p).2.need [61])).1.d]]) bC bC bC (by simp[bI.mut])) ?_;simp;refine aAV.mk ⟨.mk 9 (localP p).1 0 [(a ((localP p).2.need [61])).1],(a ((localP p).2.need [61])).2⟩ (aA i [0,2,5] [(0,0),(2,2),(5,5)]) ?_;exact Cs d aE aE j
     .apply aF;have E:=ME p l;have gl:=mX (p.l.length+1) p (A0 _) l;refine aU (oh 16 (dV (placeP p).2) (.d (placeP p).1.d)) ?_;simp;refine⟨by simpa using E,?_⟩;apply aF;have f:=lR (placeP p).2 [61];have v:=cE (s:=[61]) gl.2.1;refine aU (oh 20 (dV ((placeP p).2.need [61])) (.tup [])) ?_;simp;refine⟨f,?_⟩;have F:=r.ok ((placeP p).2.need [61]) (by have:=gl.1;omega) v.2;refine fL.rd [[0,26],[0,26],[26],[26],[0,26],[0],[],[5],[5],[27],[27]] [[],[],[],[0],[],[26],[27,17],[],[27],[],[5]] (oh 24 (dV (a ((placeP p).2.need [61])).2) (.d (a ((placeP p).2.need [61])).1.d)) ?_;simp;refine⟨by simpa using F,?_⟩;refine iT (bV 5 [27] (fz:=false) (cs:=[.d (aJ 10),.d (.str []),.d (aJ 0),.ow 27 0 2]) (ds:=[aJ 10,.str [],aJ 0,.sl [(placeP p).1.d,(a ((placeP p).2.need [61])).1.d]]) bC bC bC (by simp[bI.mut])) ?_;simp;refine aAV.mk ⟨.mk 10 [] 0 [(placeP p).1,(a ((placeP p).2.need [61])).1],(a ((placeP p).2.need [61])).2⟩ (aA i [0,2,5] [(0,0),(2,2),(5,5)]) ?_;exact Ct d aE aE j
  .apply aF;have f:=lR q [59];refine aU (oh 90 (dV (q.need [59])) (.tup [])) ?_;simp;refine⟨f,?_⟩;apply aD;simp;apply aH;simp;exact aA i [0] [(0,0)] (by simp[h]) (by simp[h])
end
section
attribute[local simp] aW bJ bE aR
attribute[local simp] lB.cond Nd.d_eq nd_t nd_dr nd_td ndsD aX bO dL eI Cn Co Cp pZ Kt
theorem Fs.need{T:List Tk}{p:PS}(f:lA T p)(w:bA):lA T (p.need w)/\(p.need w).l.length<=p.l.length:=⟨f.need,iX⟩
theorem MM{T:List Tk}{m:Nat}{a:PS->Nd×PS}(c:Fs T m a):∀(f:Nat) (b:List Nd) (p:PS),p.l.length<m->lA T p->lA T (stmtsF a f b p).2/\(stmtsF a f b p).2.l.length<=p.l.length
 |0,_,p,_,hf=>⟨hf,A1 _⟩
 |f+1,b,p,hm,hf=>by
  rw[stmtsF];split
  .exact⟨hf,A1 _⟩
  .obtain⟨d,e⟩:=c p hm hf;obtain⟨g,h⟩:=MM c f (b++[(a p).1]) (a p).2 aE d;exact⟨g,B0 h e⟩
theorem Fs.block{T:List Tk}{m:Nat}{a:PS->Nd×PS}(i:Fs T m a):Fs T m (blockB a):=λp j h=>by
 obtain⟨b,c⟩:=Fs.need h [123];obtain⟨d,e⟩:=MM i ((p.need [123]).l.length+1) [] (p.need [123]) aE b;obtain⟨f,g⟩:=Fs.need d [125];exact⟨f,B0 g (B0 e c)⟩
theorem Zj{T:List Tk}(a:bT T)(m:Nat):Fs T m λq=>exprP true (q.l.length+1) q:=λq _ f=>Kw a (q.l.length+1) q (A0 _) f
theorem Zk{s:bA}{T:List Tk}(c:Cm s T)(m:Nat):RR s T m 368 λq=>exprP true (q.l.length+1) q:=
 ⟨λq _ f=>(SF c (q.l.length+1)).ok q (A0 _) f,Zj c.hg m⟩
def Dp(ex:PS->Nd×PS)(p:PS):Nd×PS:=
 if p.peek.take 1=[36]then(.mk 9 (localP p).1 0 [(ex ((localP p).2.need [61])).1],(ex ((localP p).2.need [61])).2)
 else(.mk 10 [] 0 [(placeP p).1,(ex ((placeP p).2.need [61])).1],(ex ((placeP p).2.need [61])).2)
def Vc(ex bl:PS->Nd×PS)(k:Int)(p:PS):Nd×PS:=
 if k=11/\(bl (ex (p.took p.peek)).2).2.is sElse=true then
  (.mk k [] 0 [(ex (p.took p.peek)).1,(bl (ex (p.took p.peek)).2).1,(bl ((bl (ex (p.took p.peek)).2).2.took sElse)).1],(bl ((bl (ex (p.took p.peek)).2).2.took sElse)).2)
 else(.mk k [] 0 [(ex (p.took p.peek)).1,(bl (ex (p.took p.peek)).2).1],(bl (ex (p.took p.peek)).2).2)
theorem Vd(s:bA)(T:List Tk)(c:Cm s T)(p:PS)(n:Nat)(b:PS->Nd×PS)(t:RR s T n 335 b)(v:PK n b)(D:p.l.length<n)(f:lA T p):iP prog 307 [.bx 0 0] (eI s T p) (eI s T (blockB b p).2) (.d (blockB b p).1.d):=by
 unfold eI;have A:=c.ht;have w:=f.le;refine fJ func307 rfl ntmps307 results307 λE X o=>?_;apply aD;simp;apply aD;simp;refine iU (fz:=false) (cs:=[.d (aJ 8),.d (.str []),.d (aJ 0),.nl]) 3 3 1022 4 bF ⟨bC,bC,bC,?_⟩;simp;apply aF;have l:=jE s T p c f [123] bC;have gl:=Fs.need f [123];refine aU (oh 6 (eI s T (p.need [123])) (.tup [])) ?_;simp;refine⟨l,?_⟩;apply cR;refine aO (ι:=BlS) (λ⟨f,d,q⟩=>aQ [(0,.bx 0 0),(2,.bx 2 0),(3,.bx 3 0)]) (λ⟨f,d,q⟩=>aL [(0,.box false [.d (.str s),.d (.sl (T.map Tk.r)),.d (aJ ((T.length:Int)- q.l.length)),.d (.bool (!decide (q.e=0))),.d (.bool (decide (q.e=5)))]),(2,.box false [.d (aJ 0),.d (.str []),.d (aJ 0),.nl]),(3,.box false [.d (aJ 8),.d (.str []),.d (aJ 0),.ow 1022 0 d.length]),(1022,.row false 4 (d.map Nd.d))]) (λ⟨f,d,q⟩=>(q.e=0->q.l.length<f)/\lA T q/\q.l.length<=p.l.length/\d.length+q.l.length<=p.l.length+(if q.e=0 then 0 else 1)/\stmtsF b ((p.need [123]).l.length+1) [] (p.need [123])=stmtsF b f d q) (λ⟨f,d,q⟩=>2*q.l.length+(if q.e=0 then 1 else 0)) ⟨(p.need [123]).l.length+1,[],p.need [123]⟩ (aA o [0,2,3] [(0,0),(2,2),(3,3),(1022,1022)]) (⟨λ_=>A0 _,gl.1,gl.2,by have:=gl.2;simp only[B8];omega,rfl⟩) λ⟨f,d,q⟩ a=>?_;apply eG;have r:=kG s T q c a.2.1;refine aU (oh 14 (eI s T q) (.d (.str q.peek))) ?_;simp[uU];refine⟨λ_=>r,?_⟩;apply aK;simp;refine⟨λj u=>?_,λg=>?_⟩
 .apply aG;simp;apply aM;have B:q.l.length<=p.l.length:=a.2.2.1;have C:d.length+q.l.length<=p.l.length:=by have z:=a.2.2.2.1;simp only[j,if_true]at z;omega
  have y:=t.ok q aE a.2.1;have k:=t.fs q aE a.2.1;have i:=v q aE (a.2.1.good c) j;refine fL.rd [[0,21],[0,21]] [[],[],[],[0],[21],[22,1022],[],[3]] (oh 20 (eI s T (b q).2) (.d (b q).1.d)) ?_;simp;refine⟨⟨by simpa using y,aE,aE⟩,?_⟩;refine QT.mk ⟨f-1,d++[(b q).1],(b q).2⟩ (aA o [0,2,3] [(0,0),(2,2),(3,3),(22,1022)]) ?_ ?_
  .refine⟨λe=>?_,k.1,?_,?_,?_⟩
   .show(b q).2.l.length<f-1;have z:=a.1 j;rcases i with h|h
    .exact absurd e h
    .omega
   .show(b q).2.l.length<=p.l.length;omega
   .show(d++[(b q).1]).length+(b q).2.l.length<=p.l.length+(if(b q).2.e=0 then 0 else 1);rw[A6,A3];by_cases e:(b q).2.e=0
    .rw[if_pos e];rcases i with h|h
     .exact absurd e h
     .omega
    .rw[if_neg e];omega
   .rw[a.2.2.2.2];exact MH (a.1 j) j u
  .show 2*(b q).2.l.length+(if(b q).2.e=0 then 1 else 0)<2*q.l.length+(if q.e=0 then 1 else 0);rw[if_pos j];by_cases e:(b q).2.e=0
   .rw[if_pos e];rcases i with h|h
    .exact absurd e h
    .omega
   .rw[if_neg e];omega
 .apply bG;simp;apply aF;have m:=jE s T q c a.2.1 [125] bC;refine aU (oh 25 (eI s T (q.need [125])) (.tup [])) ?_;simp;refine⟨m,?_⟩;apply aD;simp;apply aH;simp;have e:blockB b p=(.mk 8 [] 0 d,q.need [125]):=by unfold blockB;simp only[];rw[a.2.2.2.2,IJ g]
  refine bH (x:=(blockB b p).1.d) (by simp[e]) ?_;simp;exact aA o [0] [(0,0)] (hH:=by simp[e])
theorem RR.block{s:bA}{T:List Tk}(c:Cm s T){n:Nat}{a:PS->Nd×PS}(b:RR s T n 335 a)(d:PK n a):RR s T n 307 (blockB a):=
 ⟨λq e f=>Vd s T c q n a b d e f,Fs.block b.fs⟩
theorem PN(s:bA)(T:List Tk)(c:Cm s T)(p:PS)(w:bA)(k:p.peek=w)(n:Nat)(a:PS->Nd×PS)(o:RR s T n 368 a)(u:p.l.length<n)(f:lA T p):iP prog 369 [.bx 0 0,.d (.str w)] (eI s T p) (eI s T (Dp a p).2) (.d (Dp a p).1.d):=by
 unfold eI;have m:=f.good c;refine fJ func369 rfl ntmps369 results369 λv X q=>?_;apply aD;simp;apply aF;apply aP;simp;refine⟨λt r=>?_,λg=>?_⟩
 .have d:p.peek.take 1=[36]:=at0.2 ⟨by rw[k];omega,by rw[k];exact r⟩;apply aF;have i:=uT s T p c f;have gl:=(eS m).1;refine aU (oh 16 (eI s T (localP p).2) (.d (.str (localP p).1))) ?_;simp;refine⟨i,?_⟩;apply aF;have b:=jE s T (localP p).2 c f.local [61] bC;have h:=Fs.need f.local [61];refine aU (oh 19 (eI s T ((localP p).2.need [61])) (.tup [])) ?_;simp;refine⟨b,?_⟩;apply aF;have l:=o.ok ((localP p).2.need [61]) aE h.1;refine fL.rd [[0,24],[0,24]] [[],[],[],[0],[24],[25],[],[5]] (oh 23 (eI s T (a ((localP p).2.need [61])).2) (.d (a ((localP p).2.need [61])).1.d)) ?_;simp;refine⟨by simpa using l,?_⟩;apply aD;simp;apply aH;simp;have e:Dp a p=(.mk 9 (localP p).1 0 [(a ((localP p).2.need [61])).1],(a ((localP p).2.need [61])).2):=if_pos d;refine bH (x:=(Dp a p).1.d) (by simp[e]) ?_;simp;exact aA q [0] [(0,0)] (hH:=by simp[e])
 .have d:¬p.peek.take 1=[36]:=λz=>by have y:=at0.1 z;rw[k]at y;have:=g aE;omega
  apply aG;simp;apply aD;simp;apply aF;have j:=IL s T p c f;have gl:=(mX (p.l.length+1) p (A0 _) m).1;refine fL.rd [[0,33],[0,33]] [[],[],[],[0],[33],[34],[],[6]] (oh 32 (eI s T (placeP p).2) (.d (placeP p).1.d)) ?_;simp;refine⟨by simpa using j,?_⟩;apply aF;have b:=jE s T (placeP p).2 c f.place [61] bC;have h:=Fs.need f.place [61];refine aU (oh 37 (eI s T ((placeP p).2.need [61])) (.tup [])) ?_;simp;refine⟨b,?_⟩;apply aF;have l:=o.ok ((placeP p).2.need [61]) aE h.1;refine fL.rd [[0,42],[0,42]] [[],[],[],[0],[42],[43,34],[],[6]] (oh 41 (eI s T (a ((placeP p).2.need [61])).2) (.d (a ((placeP p).2.need [61])).1.d)) ?_;simp;refine⟨by simpa using l,?_⟩;apply aD;simp;apply aH;simp;have e:Dp a p=(.mk 10 [] 0 [(placeP p).1,(a ((placeP p).2.need [61])).1],(a ((placeP p).2.need [61])).2):=if_neg d;refine bH (x:=(Dp a p).1.d) (by simp[e]) ?_;simp;exact aA q [0] [(0,0)] (hH:=by simp[e])
end
end Go.Eng
