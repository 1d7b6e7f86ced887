/-
  Texts of the proofs of this seat, part 9. No condition.
-/
import Derived.Test.YtmndmahpoljhmaaGreatDoorMH
import Derived.Test.YtmndmahpoljhmaaGreatDoorRows
import Derived.ChangeSame
import Derived.Lib.LaidTab
set_option linter.unusedVariables false
set_option linter.unusedSimpArgs false
namespace Go.Eng
open Go.Proofs
attribute[local simp] nP lH gR bA oC gK gS pE cY bD pL.plain pL.cond pL.fail dU mN tQ nO gC kQ kW lR memless nD eV jD uG EJ gQ fJ strip pD eD mC bW
 qY fZ iR gT iQ pU lk cH dX bQ cA bY oL fE pY iU jF bS eW bN dM gM fL fM eI fN gX gY gZ fO eJ fP eL fQ hU hZ iC iD fR iG oY oJ mkAgg tP BO jN bB gN aW.live TK.isNone TK.agg TK.isBool TK.isStr TK.isStruct Op.operands Call.operands
 bF cV cO dF eP oK lN cN dN iO fA kY aQ frozen lS
 jT jU lU gV jW jX jY kD lV gW kF kG kH kJ sE mM oO oP oS oT oV kK jR gU fK Nm.d Df.d Ed.d yV yW mK yX jS sL sM dK dL
 yY yZ sF zA zB sG sH sI oW zC zD sJ
 bZ aZ dP mB dQ bT cI bP eZ uJ TK.isInt jV kE oQ iB gP dO eX eY gE fD gB mO sZ nU yU sD
 nS kX mX nR cS eF dY lJ jG jH iV tF iH dJ iI iJ cH kA kC oN iW iK kL iE iF fT
 cP gO TK.isPtr eR cE kM qB qO jZ kI oU hO iA fS
attribute[local simp] eM kN iL
section
attribute[local simp] pL.cond Nd.d_eq nd_t nd_dr nd_td ndsD bG
theorem Nc(x y:Nd):sameN x y=sameN y x:=by
 have h1:=sameN_iff x y
 have h2:=sameN_iff y x
 cases e:sameN x y<;>cases f:sameN y x<;>simp_all
theorem IP:∀g∈(cZ.filter (·≠[]))++[cF,jJ],g.length≤20:=by decide
theorem PR:jQ≠[]:=by decide
theorem CG:jQ.length=24:=rfl
set_option maxRecDepth 100000 in
theorem Nf:∀g∈jQ,g∈(cZ.filter (·≠[]))++[cF,jJ]:=by decide
set_option maxRecDepth 10000 in
set_option maxHeartbeats 2000000 in
theorem Nj(l m:List Int)(a how b:Int)(hl:Kl l)(hm:Kl m)(ha:xM a)(hh:xM how)(hb:xM b):Ok Tryz.prog 4 [.sl (l.map aD),.sl (m.map aD),aD a,aD how,aD b] ⟨.d (.bool true),true⟩:=by
 refine Ok.ret Tryz.func4 (by kernel_rfl) (c:=_) rfl Tryz.ntmps4 (by simp) Tryz.results4 (by intro _ h;cases h) fun w0 X hp=>?_
 obtain⟨x,hx⟩:∃x,uA l=x:=⟨_,rfl⟩
 obtain⟨s,hs⟩:∃s,textT x=s:=⟨_,rfl⟩
 obtain⟨t,ht⟩:∃t,spacedS s m=t:=⟨_,rfl⟩
 have hv:validB x=true:=by rw[←hx];exact Kz l
 have ls:s.length≤900:=by rw[←hs,←hx];exact(Ey l).1
 have hw:weighN x≤1000000000:=by have:=Kq l;rw[hx]at this;omega
 have kx:=PB l hl
 have kp:=DX x hw
 have kt:=Kt s m (by omega) hm
 have hpr:printS x=s:=by unfold printS;rw[if_pos hv,hs]
 have ksp:=GS hv m
 rw[hs,ht]at ksp
 rw[hx]at kx
 rw[hpr]at kp
 rw[ht]at kt
 simp at kx kp
 refine aA ?_
 simp
 refine cB hT hW (fun|29=>some<| .plain ⟨.d x.d,false⟩|_=>none) ?_
 simp
 refine⟨kx,?_⟩
 refine cB hT hW (fun|31=>some<| .plain ⟨.d (.str s),true⟩|_=>none) ?_
 simp
 refine⟨kp,?_⟩
 refine cB hT hW (fun|34=>some<| .plain ⟨.d (.str t),true⟩|_=>none) ?_
 simp
 refine⟨kt,?_⟩
 refine aT (ι:=Unit) (fun u=>aY [(1,.d (.sl (m.map aD))),(2,.d (aD a)),(3,.d (aD how)),(4,.d (aD b)),(11,.bx 11 0)]) (fun u=>aK [(11,.box false [.d (aD x.kind),.d (.str x.text),.d (aD x.n),.d (ndsD x.kids)])]) (fun u=>True) ?_ fun u hc8=>?_
 ·refine aA ?_
  simp
  refine aC ?_
  simp
  refine⟨fun h4=>?_,fun h4=>?_⟩
  ·refine pS.seq ?_
   have h4':t.length≤1024:=by omega
   have k1:=rY t
   have k2:=Iz x hw x
   have k3:=CS x x
   rw[ksp h4']at k1
   rw[FU]at k2 k3
   simp at k1 k2 k3
   refine pS.ro hT hW (fun|40=>some<| .plain ⟨.tup [.d x.d,.d (aD 0),.d (aD 0)],false⟩|_=>none) ?_
   simp[cX]
   refine⟨k1,?_⟩
   refine cB hT hW (fun|49=>some<| .plain ⟨.d (.bool true),true⟩|55=>some<| .plain ⟨.d (.bool true),true⟩|_=>none) ?_
   simp
   refine⟨⟨k2,k3⟩,?_⟩
   refine aC ?_
   simp
   refine pS.skip ?_
   simp
   exact(aB [1,2,3,4,11] [(11,11)] (by decide) (by decide) (by simp[hp]) (by simp) (by simp))
  ·refine pS.skip ?_
   simp
   exact(aB [1,2,3,4,11] [(11,11)] (by decide) (by decide) (by simp[hp]) (by simp) (by simp))
 ·refine pS.seq ?_
  obtain⟨z,hz⟩:∃z,qR x a how b=z:=⟨_,rfl⟩
  have k4:=Ko x hw a how b ha hh hb
  rw[hz]at k4
  simp at k4
  have k5:=CS x z
  have k6:=Iz x hw z
  have k7:=CS z x
  rw[Nc z x]at k7
  obtain⟨q,hq⟩:∃q,sameN x z=q:=⟨_,rfl⟩
  rw[hq]at k5 k6 k7
  simp at k5 k6 k7
  refine pS.ro hT hW (fun|62=>some<| .plain ⟨.d z.d,false⟩|_=>none) ?_
  simp
  refine⟨k4,?_⟩
  refine pS.seq ?_
  refine pS.seq ?_
  refine aI hT hW bU (lk [[],[],[0,1],[],[],[0,1,2,3,4],[0,1,2,3,4,5],[0,1,2,3,4,5,6],[0,1,2,3,4,5,6,7],[0,1,2,3,4,5,6,7],[0,1,2,3,4,5,6,7,8,9],[0,1,2,3,4,5,6,7],[0,1,2,3,4,5,6,7],[0,1,2,3,4,5,6,7,8,9,10,11,12],[0,1,2,3,4,5,6,7,8,9,10,11,12,13],[0,1,2,3,4,5,6,7,8,9,10,11,12,13,14]]) (lk [[],[],[],[65],[65],[],[],[],[],[],[],[73],[73],[],[],[]]) (lk [[],[],[65],[],[],[68],[],[],[],[],[73],[],[],[76],[],[]]) (by kernel_rfl) (fun|65=>some<| .plain ⟨.d (.bool q),true⟩|68=>some<| .plain ⟨.d (.bool q),true⟩|73=>some<| .plain ⟨.d (.bool q),true⟩|76=>some<| .plain ⟨.d (.bool q),true⟩|_=>none) (by intro d;first|exact⟨rfl,fun _ h=>h⟩|(split<;>exact⟨rfl,fun _ h=>h⟩)) ?_
  simp
  refine⟨⟨⟨⟨k5,k6⟩,k7⟩,k5⟩,?_⟩
  refine aC ?_
  simp
  refine pS.skip ?_
  simp
  refine pS.seq ?_
  obtain⟨v,hvs⟩:∃v,rF m=v:=⟨_,rfl⟩
  have k8:=Nb m hm
  have lv:=yS m
  have p1:=IL m
  have p2:=MZ m
  rw[hvs]at k8 lv p1 p2
  unfold EA at p2
  obtain⟨w,hw2⟩:∃w,tO (aF (m.take 20) 3 0).1=w:=⟨_,rfl⟩
  rw[hw2]at p1 p2
  have k9:=CS w w
  rw[FU]at k9
  simp at k9 p1 p2
  refine pS.ro hT hW (fun|80=>some<| .plain ⟨.d (.str v),true⟩|_=>none) ?_
  simp
  refine⟨k8,?_⟩
  refine pS.seq ?_
  have k1:=rY ([116,101,115,116,32,116,32,123,32,99,104,101,99,107,32]++v++[59,32,120,32,61,32]++v++[59,32,125])
  simp at k1
  rw[p1]at k1
  simp at k1
  refine pS.ro hT hW (fun|88=>some<| .plain ⟨.tup [.d w.d,.d (aD 0),.d (aD 0)],false⟩|_=>none) ?_
  simp[cX]
  refine⟨by(repeat' with_reducible apply And.intro)<;>first|omega|exact k1,?_⟩
  refine pS.seq ?_
  have k2:=rY ([116,101,115,116,32,116,123,99,104,101,99,107,40,40]++v++[41,41,59,120,61,40]++v++[41,59,125])
  simp at k2
  rw[p2]at k2
  simp at k2
  refine pS.ro hT hW (fun|99=>some<| .plain ⟨.tup [.d w.d,.d (aD 0),.d (aD 0)],false⟩|_=>none) ?_
  simp[cX]
  refine⟨by(repeat' with_reducible apply And.intro)<;>first|omega|exact k2,?_⟩
  refine pS.seq ?_
  have kw:=PQ
  have kr:=Fy
  have kst:=GZ jQ jQ
  refine pS.ro hT hW (fun|103=>some<| .plain ⟨.own 1 (jQ.map .str),true⟩|_=>none) ?_
  simp
  refine⟨kw,?_⟩
  refine pS.seq ?_
  refine cB hT hW (fun|113=>some<| .plain ⟨.d (.bool true),true⟩|118=>some<| .plain ⟨.d (mK jQ),true⟩|119=>some<| .plain ⟨.d (.bool true),true⟩|_=>none) ?_
  simp
  refine⟨⟨⟨k9,kr⟩,by simpa using kst⟩,?_⟩
  refine aC ?_
  simp[PR]
  refine pS.skip ?_
  simp
  refine pS.seq ?_
  have hr:=oE b 24 (by decide)
  have ka:=rM b 24 hb.1 hb.2 (by decide)
  obtain⟨j,hj⟩:∃j,fF b 24=j:=⟨_,rfl⟩
  rw[hj]at hr ka
  obtain⟨g,hg⟩:∃g,jQ.getD j.toNat []=g:=⟨_,rfl⟩
  obtain⟨Y,hY⟩:∃Y,dW ([108,111,99,107,32]++g++[59])=Y:=⟨_,rfl⟩
  have k3:=rY ([108,111,99,107,32]++g++[59])
  have hgm:g∈(cZ.filter (·≠[]))++[cF,jJ]:=by
   have hj2:j.toNat<jQ.length:=by have:jQ.length=24:=rfl;omega
   have:g∈jQ:=by rw[←hg,List.getD_eq_getElem?_getD,List.getElem?_eq_getElem hj2];exact List.getElem_mem hj2
   exact Nf g this
  have hget:jQ[j.toNat]? =some g:=by
   have hj2:j.toNat<jQ.length:=by rw[CG];omega
   rw[←hg,List.getD_eq_getElem?_getD,List.getElem?_eq_getElem hj2];rfl
  have hgl:g.length≤20:=IP g hgm
  have hYe:Y.2=(5,2):=by rw[←hY];exact IN g hgm
  obtain⟨Y1,Y2,Y3⟩:=Y
  simp only[Prod.mk.injEq]at hYe
  obtain⟨hY2,hY3⟩:=hYe
  subst hY2 hY3
  rw[hY]at k3
  simp at k3
  refine pS.ro hT hW (fun|132=>some<| .plain ⟨.d (aD j),true⟩|137=>some<| .plain ⟨.tup [.d Y1.d,.d (aD 5),.d (aD 2)],false⟩|_=>none) ?_
  simp[cX,hget,CG]
  refine⟨by(repeat' with_reducible apply And.intro)<;>first|omega|exact ka|exact k3,?_⟩
  refine pS.seq ?_
  have hlv:=Ks
  refine pS.ro hT hW (fun|148=>some<| .plain ⟨.d (.bool true),true⟩|_=>none) ?_
  simp
  refine⟨hlv,?_⟩
  refine pS.ret ?_
  simp
end
end Go.Eng
namespace Go.Eng
open Go.RowKit
def Ha(P:Program):List Field→Nat→Bool
 |[],_=>true
 |f::r,o=>f.offset==o&&Ha P r (o+P.cellsOf f.type)
def xS(P:Program):Nat→TypeId→DataW Unit→Option (List Value)
 |0,_,_=>none
 |n+1,t,d=>match P.underlying t,d with
  |some (.int _),.lit (.int k z)=>some [.int k z]
  |some .string,.lit (.string s)=>some [.string ⟨s.toArray⟩]
  |some (.array _ e),.agg ds=>match ds.mapM (xS P n e)with
   |some xs=>if xs.all (fun x=>x.length==P.cellsOf e)&&xs.length*P.cellsOf e==P.cellsOf t then some xs.flatten else none
   |none=>none
  |some (.struct fs),.agg ds=>match(fs.toList.zip ds).mapM (fun p=>xS P n p.1.type p.2)with
   |some xs=>if Ha P fs.toList 0&&xs.flatten.length==P.cellsOf t&&((fs.toList.zip xs).all fun p=>p.2.length==P.cellsOf p.1.type)&&ds.length==fs.size then some xs.flatten else none
   |none=>none
  |_,_=>none
theorem Ga{c:Nat}:∀(xs:List (List Value)) (cs:List Value),cs.length=xs.length*c→(∀(i:Nat) (x:List Value),xs[i]? =some x→(cs.drop (i*c)).take c=x)→cs=xs.flatten
 |[],cs,hl,_=>by
  have:cs=[]:=List.eq_nil_of_length_eq_zero (by simpa using hl)
  simp[this]
 |x::xs,cs,hl,h=>by
  have h0:=h 0 x rfl
  simp only[Nat.zero_mul,List.drop_zero]at h0
  have hr:=Ga (c:=c) xs (cs.drop c) (by rw[List.length_drop,hl,List.length_cons,Nat.succ_mul];omega) fun i y hy=>by
   have:=h (i+1) y (by simpa using hy)
   rw[List.drop_drop,Nat.add_comm c,←Nat.succ_mul]
   exact this
  rw[List.flatten_cons,←hr,←h0,List.take_append_drop]
theorem CH{P:Program}{cs:List Value}:∀(fs:List Field) (xs:List (List Value)) (o:Nat),Ha P fs o=true→xs.length=fs.length→(∀(i:Nat) (f:Field) (x:List Value),fs[i]? =some f→xs[i]? =some x→(cs.drop f.offset).take (P.cellsOf f.type)=x∧x.length=P.cellsOf f.type)→
 (cs.drop o).take xs.flatten.length=xs.flatten
 |[],[],_,_,_,_=>by simp
 |[],_::_,_,_,h,_=>by simp at h
 |_::_,[],_,_,h,_=>by simp at h
 |f::fs,x::xs,o,ho,hl,h=>by
  simp only[Ha,Bool.and_eq_true,beq_iff_eq]at ho
  obtain⟨h1,h2⟩:=h 0 f x rfl rfl
  have hr:=CH fs xs (o+P.cellsOf f.type) ho.2 (by simpa using hl) fun i g y hg hy=>h (i+1) g y (by simpa using hg) (by simpa using hy)
  rw[ho.1]at h1
  rw[List.flatten_cons,List.length_append,List.take_add,h2,h1,List.drop_drop,hr]
theorem Ng{enc:TypeId×Value→Unit}{P:Program}{w:World}{base:Nat}{sp:Nat→Bool}{held:Bool}:∀(n fuel:Nat) (t:TypeId) (cs:List Value) (d:DataW Unit) (p:List MemPlace) (vs:List Value),
 DataW.trod enc P w base sp held fuel t cs=some (d,p)→xS P n t d=some vs→cs=vs:=by
 intro n
 induction n with
 |zero=>intro fuel t cs d p vs _ h;cases h
 |succ n ih=>
  intro fuel t cs d p vs ht hv
  unfold xS at hv
  split at hv
  ·rename_i k' k z hu
   obtain⟨m,rfl,hx,_⟩:=DataW.trod_int hu ht
   injection hx with e1 e2
   injection e1 with e1
   injection e1 with e3 e4
   subst e3 e4
   exact Option.some.inj hv
  ·rename_i s hu
   obtain⟨b,rfl,hx,_⟩:=DataW.trod_string hu ht
   injection hx with e1 e2
   injection e1 with e1
   injection e1 with e3
   subst e3
   exact Option.some.inj hv
  ·rename_i m e ds hu
   cases fuel with
   |zero=>simp[DataW.trod]at ht
   |succ fuel=>
    unfold DataW.trod at ht
    rw[hu]at ht
    simp only at ht
    split at ht
    ·rename_i hl
     obtain⟨ys,hm,hx⟩:=Option.map_eq_some_iff.1 ht
     have hds:ys.map (·.1)=ds:=by
      have:=congrArg Prod.fst hx
      simpa using this
     split at hv
     ·rename_i xs hxs
      split at hv
      ·rename_i hc
       simp only[Bool.and_eq_true,List.all_eq_true,beq_iff_eq]at hc
       have hv:=Option.some.inj hv
       rw[←hv]
       have hyl:ys.length=m:=by simpa using Lib.mapM_length hm
       have hxl:xs.length=ds.length:=Lib.mapM_length hxs
       have hdl:ds.length=m:=by rw[←hds,List.length_map,hyl]
       refine Ga (c:=P.cellsOf e) xs cs (by rw[hl,hc.2]) fun i x hx'=>?_
       have hi:i<m:=by have:=(List.getElem?_eq_some_iff.1 hx').1;omega
       obtain⟨y,hy,hf⟩:=Lib.mapM_at hm i i (by simp[hi])
       have hdi:ds[i]? =some y.1:=by rw[←hds,List.getElem?_map,hy];rfl
       obtain⟨x2,hx2,hlc⟩:=Lib.mapM_at hxs i _ hdi
       have:x2=x:=Option.some.inj (hx2.symm.trans hx')
       subst this
       exact ih fuel e _ y.1 y.2 x2 hf hlc
      ·cases hv
     ·cases hv
    ·cases ht
  ·rename_i fs ds hu
   obtain⟨ys,m,rfl,hx,hl,hyl,hf⟩:=DataW.trod_struct hu ht
   have hds:ys.map (·.1)=ds:=by
    have:=congrArg Prod.fst hx
    simpa using this.symm
   split at hv
   ·rename_i xs hxs
    split at hv
    ·rename_i hc
     simp only[Bool.and_eq_true,List.all_eq_true,beq_iff_eq]at hc
     obtain⟨⟨⟨c1,c2⟩,c3⟩,c4⟩:=hc
     have hv:=Option.some.inj hv
     rw[←hv]
     have hxl:xs.length=(fs.toList.zip ds).length:=Lib.mapM_length hxs
     have hzl:(fs.toList.zip ds).length=fs.size:=by rw[List.length_zip,c4];simp
     have key:=CH (P:=P) (cs:=cs) fs.toList xs 0 c1 (by rw[hxl,hzl];simp) fun i f x hfi hxi=>by
      have hfa:fs[i]? =some f:=by simpa using hfi
      have hyi:=hf i f hfa
      have hi:i<fs.size:=(Array.getElem?_eq_some_iff.1 hfa).1
      obtain⟨y,hy⟩:∃y,ys[i]? =some y:=⟨_,List.getElem?_eq_getElem (by omega)⟩
      rw[hy]at hyi
      have hdi:ds[i]? =some y.1:=by rw[←hds,List.getElem?_map,hy];rfl
      have hz:(fs.toList.zip ds)[i]? =some (f,y.1):=by
       rw[List.getElem?_zip_eq_some]
       exact⟨hfi,hdi⟩
      obtain⟨x2,hx2,hlc⟩:=Lib.mapM_at hxs i _ hz
      have:x2=x:=Option.some.inj (hx2.symm.trans hxi)
      subst this
      refine⟨ih m f.type _ _ _ x2 hyi hlc,?_⟩
      have hz2:(fs.toList.zip xs)[i]? =some (f,x2):=by
       rw[List.getElem?_zip_eq_some]
       exact⟨hfi,hxi⟩
      exact c3 _ (List.mem_of_getElem? hz2)
     rw[List.drop_zero,c2,←hl,List.take_length]at key
     exact key
    ·cases hv
   ·cases hv
  ·cases hv
def PT:DV→Value
 | .int k n=>.int k n
 | .str s=>.string ⟨s.toArray⟩
 |_=>undef
def SJ:DV→Bool
 | .int _ _=>true
 | .str _=>true
 |_=>false
theorem vK{P:Program}{W:World}{name:String}{g g':Nat}{t t':TypeId}{cs:Array Value}{fuel n:Nat}{p:List MemPlace}{d:DataW Unit}{ds:List DV}{enc:TypeId×Value→Unit}{base:Nat}{sp:Nat→Bool}{held:Bool}
 (hg:P.globalNamed name=some g)(hty:(P.globals[g]?).map (·.type)=some t)(hg':P.globalNamed name=some g')(ht':(P.globals[g']?).map (·.type)=some t')(hvar:W.var? P name=some cs)
 (hd:DataW.trod enc P W base sp held fuel t' cs.toList=some (d,p))(hlit:xS P n t d=some (ds.map PT))(hfl:ds.all SJ=true):
 RD W (fun _=>False) (.ro ds) (.pointer (some ⟨g,0,none⟩))∧∃arr t fz,W.heap[g]? =some (.cells arr t fz)∧arr.size=ds.length:=by
 obtain rfl:=Option.some.inj (hg.symm.trans hg')
 obtain rfl:=Option.some.inj (hty.symm.trans ht')
 have hc:=Ng n fuel t cs.toList d p _ hd hlit
 have hsz:cs.size=ds.length:=by
  have:=congrArg List.length hc
  simpa using this
 have hblk:∃ty fz,W.heap[g]? =some (.cells cs ty fz):=by
  unfold World.var? at hvar
  rw[hg]at hvar
  simp only[Option.bind_some]at hvar
  split at hvar
  ·rename_i c ty fz hh
   cases hvar
   exact⟨ty,fz,hh⟩
  ·cases hvar
 obtain⟨ty,fz,hblk⟩:=hblk
 refine⟨.ro ds g 0 (ds.map PT) (fun h=>h) (by simp) (fun u hu=>?_) (Array.getElem?_eq_some_iff.1 hblk).1 (fun j u hj=>?_) (fun i x v hx hv=>?_),cs,ty,fz,hblk,hsz⟩
 ·obtain⟨x,hx,rfl⟩:=List.mem_map.1 hu
  have:=List.all_eq_true.1 hfl x hx
  cases x<;>first|rfl|cases this
 ·have:=World.var?_cell hg hvar j
  rw[Nat.zero_add,this,←hj,←hc]
  simp
 ·rw[List.getElem?_map,hx]at hv
  cases hv
  have:=List.all_eq_true.1 hfl x (List.mem_of_getElem? hx)
  cases x with
  |int k n=>exact .int k n
  |str s=>exact .str s
  |_=>cases this
end Go.Eng
namespace Go.Proofs.YtmndmahpoljhmaaGreatDoor.crA
open Go.Eng
theorem gl{W:World}(h:laidMetH Tryz.prog Rows.sourceBlanksRow.laid W):CI W (fun _=>False):=by
 have h:laidMet Tryz.prog Rows.sourceBlanksRow.laid W:=h
 obtain⟨ps,⟨g1,t1,c1,f1,p1,q1,n1,y1,v1,d1,⟨g2,t2,c2,f2,p2,q2,n2,y2,v2,d2,⟨g3,t3,c3,f3,p3,q3,n3,y3,v3,d3,⟨g4,t4,c4,f4,p4,q4,n4,y4,v4,d4,⟨g5,t5,c5,f5,p5,q5,n5,y5,v5,d5,⟨g6,t6,c6,f6,p6,q6,n6,y6,v6,d6,⟨g7,t7,c7,f7,p7,q7,n7,y7,v7,d7,⟨g8,t8,c8,f8,p8,q8,n8,y8,v8,d8,_,_⟩,_⟩,_⟩,_⟩,_⟩,_⟩,_⟩,_⟩,_⟩:=h
 intro n cs hn
 match n,hn with
 |0,hn=>cases hn;exact vK (n:=4) (g:=0) (t:=100) (by kernel_rfl) (by kernel_rfl) n6 y6 v6 d6 (by kernel_rfl) (by kernel_rfl)
 |1,hn=>cases hn;exact vK (n:=4) (g:=1) (t:=196) (by kernel_rfl) (by kernel_rfl) n8 y8 v8 d8 (by kernel_rfl) (by kernel_rfl)
 |2,hn=>cases hn
 |3,hn=>cases hn
 |4,hn=>cases hn;exact vK (n:=4) (g:=4) (t:=246) (by kernel_rfl) (by kernel_rfl) n7 y7 v7 d7 (by kernel_rfl) (by kernel_rfl)
 |5,hn=>cases hn
 |6,hn=>cases hn
 |7,hn=>cases hn
 |8,hn=>cases hn;exact vK (n:=4) (g:=8) (t:=265) (by kernel_rfl) (by kernel_rfl) n3 y3 v3 d3 (by kernel_rfl) (by kernel_rfl)
 |9,hn=>cases hn;exact vK (n:=4) (g:=9) (t:=151) (by kernel_rfl) (by kernel_rfl) n1 y1 v1 d1 (by kernel_rfl) (by kernel_rfl)
 |10,hn=>cases hn;exact vK (n:=4) (g:=10) (t:=144) (by kernel_rfl) (by kernel_rfl) n2 y2 v2 d2 (by kernel_rfl) (by kernel_rfl)
 |n+11,hn=>cases hn
abbrev rangeS:ByteArray:={data:= #[118,97,108,117,101,32,111,117,116,32,111,102,32,114,97,110,103,101]}
abbrev syntaxS:ByteArray:={data:= #[105,110,118,97,108,105,100,32,115,121,110,116,97,120]}
noncomputable def low:Nat:=(World.holding Tryz.prog default ⟨#[],#[],[]⟩).heap.size
noncomputable def held(g:Nat)(cs:Array Value):Array Value:=match g with
 |6=> #[.iface 273 (.pointer (some ⟨low+1,0,none⟩))]
 |7=> #[.iface 273 (.pointer (some ⟨low,0,none⟩))]
 |g=>match globD g with
  |some ds=>(ds.map PT).toArray
  |none=>cs
noncomputable def laidObj(h:Array Obj)(g:Nat):Array Obj:=h.modify g fun
 | .cells cs t frozen=>.cells (held g cs) t frozen
 |o=>o
noncomputable def laidWorld(os:Os):World:=
 let w0:=World.holding Tryz.prog os ⟨#[.cells #[.string rangeS] 275,.cells #[.string syntaxS] 275],#[],[]⟩
 {w0 with heap:=(List.range 11).foldl laidObj w0.heap}
theorem laidWorld_met(os:Os)(args:Array Value):laidMet Tryz.prog Rows.sourceBlanksRow.laid ((laidWorld os).forCall (fun _ _=>0) ⟨#[],args,[]⟩).memory:=
 laidMet_of_run' 8 (by kernel_rfl) (by kernel_rfl)
end Go.Proofs.YtmndmahpoljhmaaGreatDoor.crA
