/- Part 4 of the proof. No condition. -/
import Derived.Test.YtepoffhhiddlkaaGreatDoorMC
import Derived.Test.YtepoffhhiddlkaaGreatDoorProg
import Derived.KernelRfl
import Derived.OpenShut
import Derived.RangeFuncRecord
import Derived.RangeFuncIn
import Derived.RangeFuncSeq
import Derived.Shelf.SortM.Plain
import Derived.Shelf.GgSortFunc.RowK
import Derived.RangeFuncNested
import Derived.OwnWalkIn
import Derived.Lib.ConvBytes
import Derived.Laws.IdiomStrings
import Derived.Maps.RangeRun
open Go.Proofs
open Go.Proofs.Tryz
set_option linter.unusedVariables false
set_option linter.unusedSimpArgs false
set_option maxRecDepth 20000
set_option maxHeartbeats 4000000
open List renaming getElem?_eq_getElem→A5,take_of_length_le→A6,eq_nil_of_length_eq_zero→A7,getElem?_eq_some_iff→A8,take→A9,map→B0,getElem?_append_right→B2,getElem?_append_left→B3,replicate→B4,length_append→B6,mem_map→B9,mem_of_mem_take→C0,take_append_of_le_length→C5,length_take→C8,length_drop→C9,length_eraseIdx_of_lt→D0,mem_cons_of_mem→D7,append_assoc→D8,mem_of_mem_drop→D9,getElem_of_mem→E0,drop→E8,drop_append_of_le_length→E9,getElem?_take→F0,map_cons→F5,flatMap_cons→F9,size_toArray→G0,getElem?_eq_none→G6,mem_of_getElem?→G9,nodup_cons→H0,map_append→H3,length_cons→I1,map_map→I3,getElem?_eraseIdx→I5,drop_eq_nil_of_le→I6,take_append_drop→I8,take_left→J2,take_take→J3,length_pos_iff→J4,length_reverse→J5,mem_cons→J6,mem_cons_self→J7,ext_getElem?→K0,getElem_mem→K4,map_id→K7,foldl_cons→K8,append_nil→L0,take_zero→L3
open Nat renaming le_refl→A4,lt_of_lt_of_le→B8,le_trans→C6,add_mul→F8,mul_le_mul_right→G8,zero_add→I2,min_eq_left→I7,zero_le→J0,le_succ→J1,lt_of_not_le→K1,lt_succ_self→K3,min_eq_right→K6,not_lt_zero→L1,zero_mul→L7,le_total→L8,mod_lt→M0
open Int renaming tmod_lt_of_pos→J9,tmod_nonneg→L2
open Array renaming getElem?_eq_some_iff→A0,getD_eq_getD_getElem?→C7,getElem?_toList→D6,getElem?_setIfInBounds→F4,length_toList→F6,toList_filter→F7,getElem?_eq_none→G4,getElem?_setIfInBounds_ne→G5,getElem?_append_left→H5,getElem?_eq_getElem→H7,size_append→H9,getElem?_extract→I4,replicate→K9,size_map→L4,ext'→L9
open Bool renaming and_eq_true→G7,false_eq_true→H4,beq_eq_decide_eq→I9
open Classical renaming byContradiction→L6
open BitVec renaming ofInt→B5,ushiftRight_eq_zero→H6,shiftLeft_eq_zero→I0,toNat_add→K5,allOnes→L5
open UInt8 renaming ofNat→B7,toNat_ofNat'→J8
namespace Go.Eng
@[simp] abbrev tI:cX:=⟨.int .i64,1,8,[.int .i64 0],[]⟩
@[simp] abbrev Xr:cX:=⟨.bool,1,1,[.bool false],[]⟩
@[simp] abbrev CO:cX:=⟨.int .u8,1,1,[.int .u8 0],[]⟩
@[simp] abbrev CP:cX:=⟨.str,1,16,[.string .empty],[]⟩
@[simp] abbrev xX:cX:=⟨.int .u64,1,8,[.int .u64 0],[]⟩
@[simp] abbrev Xs:cX:=⟨.int .i32,1,4,[.int .i32 0],[]⟩
@[simp] abbrev Xt:cX:=⟨.slice 3,1,24,[.slice none 0 0],[]⟩
@[simp] abbrev Xu:cX:=⟨.slice 27,1,24,[.slice none 0 0],[]⟩
@[simp] abbrev aZ:cX:=⟨.other,1,8,[.nilFunc],[]⟩
@[simp] abbrev Xv:cX:=⟨.slice 30,1,24,[.slice none 0 0],[]⟩
@[simp] abbrev QY:cX:=⟨.slice 46,1,24,[.slice none 0 0],[]⟩
@[simp] abbrev Ab:cX:=⟨.struct [(0,3),(1,3)],2,16,[.int .i64 0,.int .i64 0],[.int .i64,.int .i64]⟩
@[simp] abbrev QZ:cX:=⟨.arr 2 29,4,32,[.int .i64 0,.int .i64 0,.int .i64 0,.int .i64 0],[.int .i64,.int .i64,.int .i64,.int .i64]⟩
@[simp] abbrev Ra:cX:=⟨.slice 36,1,24,[.slice none 0 0],[]⟩
@[simp] abbrev EH:cX:=⟨.arr 16 5,16,16,(B4 16 (.int .u8 0)),[.int .u8,.int .u8,.int .u8,.int .u8,.int .u8,.int .u8,.int .u8,.int .u8,.int .u8,.int .u8,.int .u8,.int .u8,.int .u8,.int .u8,.int .u8,.int .u8]⟩
@[simp] abbrev Rb:cX:=⟨.slice 29,1,24,[.slice none 0 0],[]⟩
@[simp] abbrev Rc:cX:=⟨.slice 5,1,24,[.slice none 0 0],[]⟩
@[simp] abbrev Rd:cX:=⟨.slice 61,1,24,[.slice none 0 0],[]⟩
@[simp] abbrev Re:cX:=⟨.slice 9,1,24,[.slice none 0 0],[]⟩
@[simp] abbrev EI:cX:=⟨.struct [(0,29),(2,36),(3,43),(4,44)],5,88,[.int .i64 0,.int .i64 0,.slice none 0 0,.slice none 0 0,.slice none 0 0],[]⟩
@[simp] abbrev Rg:cX:=⟨.slice 43,1,24,[.slice none 0 0],[]⟩
@[simp] abbrev Rh:cX:=⟨.slice 56,1,24,[.slice none 0 0],[]⟩
@[simp] abbrev EJ:cX:=⟨.struct [(0,3),(1,9),(2,3),(3,54)],4,56,[.int .i64 0,.string .empty,.int .i64 0,.slice none 0 0],[]⟩
@[simp] abbrev EK:cX:=⟨.struct [(0,9),(1,9)],2,32,[.string .empty,.string .empty],[.str,.str]⟩
@[simp] abbrev Ri:cX:=⟨.int .u32,1,4,[.int .u32 0],[]⟩
@[simp] abbrev Rj:cX:=⟨.arr 8 90,8,32,[.int .u32 0,.int .u32 0,.int .u32 0,.int .u32 0,.int .u32 0,.int .u32 0,.int .u32 0,.int .u32 0],[]⟩
@[simp] abbrev Rk:cX:=⟨.arr 64 5,64,64,(B4 64 (.int .u8 0)),[]⟩
@[simp] abbrev Rm:cX:=⟨.struct [(0,91),(8,92),(72,93)],73,104,[.int .u32 0,.int .u32 0,.int .u32 0,.int .u32 0,.int .u32 0,.int .u32 0,.int .u32 0,.int .u32 0,.int .u8 0,.int .u8 0,.int .u8 0,.int .u8 0,.int .u8 0,.int .u8 0,.int .u8 0,.int .u8 0,.int .u8 0,.int .u8 0,.int .u8 0,.int .u8 0,.int .u8 0,.int .u8 0,.int .u8 0,.int .u8 0,.int .u8 0,.int .u8 0,.int .u8 0,.int .u8 0,.int .u8 0,.int .u8 0,.int .u8 0,.int .u8 0,.int .u8 0,.int .u8 0,.int .u8 0,.int .u8 0,.int .u8 0,.int .u8 0,.int .u8 0,.int .u8 0,.int .u8 0,.int .u8 0,.int .u8 0,.int .u8 0,.int .u8 0,.int .u8 0,.int .u8 0,.int .u8 0,.int .u8 0,.int .u8 0,.int .u8 0,.int .u8 0,.int .u8 0,.int .u8 0,.int .u8 0,.int .u8 0,.int .u8 0,.int .u8 0,.int .u8 0,.int .u8 0,.int .u8 0,.int .u8 0,.int .u8 0,.int .u8 0,.int .u8 0,.int .u8 0,.int .u8 0,.int .u8 0,.int .u8 0,.int .u8 0,.int .u8 0,.int .u8 0,.int .u64 0],[]⟩
@[simp] abbrev Rn:cX:=⟨.arr 32 5,32,32,(B4 32 (.int .u8 0)),[]⟩
@[simp] abbrev Ro:cX:=⟨.slice 128,1,24,[.slice none 0 0],[]⟩
@[simp] abbrev Rp:cX:=⟨.ptr 125,1,8,[.pointer none],[]⟩
@[simp] abbrev Rq:cX:=⟨.struct [(0,120),(1,57)],2,32,[.slice none 0 0,.int .i64 0],[]⟩
@[simp] abbrev EL:cX:=⟨.struct [(0,9),(1,3)],2,24,[.string .empty,.int .i64 0],[.str,.int .i64]⟩
@[simp] abbrev Rr:cX:=⟨.map 9 3,1,8,[.map none],[]⟩
@[simp] abbrev Rs:cX:=⟨.struct [(0,54),(1,136)],2,32,[.slice none 0 0,.map none],[]⟩
@[simp] abbrev Ru:cX:=⟨.map 9 4,1,8,[.map none],[]⟩
@[simp] abbrev EM:cX:=⟨.struct [(0,3),(1,9),(2,9)],3,40,[.int .i64 0,.string .empty,.string .empty],[.int .i64,.str,.str]⟩
@[simp] abbrev Rv:cX:=⟨.map 3 4,1,8,[.map none],[]⟩
@[simp] abbrev Rw:cX:=⟨.slice 162,1,24,[.slice none 0 0],[]⟩
@[simp] abbrev Rx:cX:=⟨.slice 38,1,24,[.slice none 0 0],[]⟩
@[simp] abbrev Ry:cX:=⟨.arr 26 9,26,416,(B4 26 (.string .empty)),[]⟩
@[simp] abbrev Rz:cX:=⟨.map 3 3,1,8,[.map none],[]⟩
@[simp] abbrev RA:cX:=⟨.arr 64 90,64,256,(B4 64 (.int .u32 0)),[]⟩
@[simp] abbrev RB:cX:=⟨.arr 4 90,4,16,[.int .u32 0,.int .u32 0,.int .u32 0,.int .u32 0],[]⟩
@[simp] abbrev RC:cX:=⟨.slice 90,1,24,[.slice none 0 0],[]⟩
@[simp] abbrev RE:cX:=⟨.arr 3 9,3,48,[.string .empty,.string .empty,.string .empty],[]⟩
@[simp] abbrev RG:cX:=⟨.slice 247,1,24,[.slice none 0 0],[]⟩
@[simp] abbrev RH:cX:=⟨.ptr 251,1,8,[.pointer none],[]⟩
@[simp] abbrev RI:cX:=⟨.struct [(0,22),(1,3)],2,32,[.slice none 0 0,.int .i64 0],[]⟩
@[simp] abbrev RJ:cX:=⟨.arr 2 3,2,16,[.int .i64 0,.int .i64 0],[]⟩
@[simp] abbrev RK:cX:=⟨.arr 37 263,74,592,(B4 74 (.int .i64 0)),[]⟩
@[simp] abbrev RL:cX:=⟨.ptr 267,1,8,[.pointer none],[]⟩
@[simp] abbrev RM:cX:=⟨.struct [(0,9),(1,158),(2,3),(3,4),(4,4)],5,56,[.string .empty,.slice none 0 0,.int .i64 0,.bool false,.bool false],[]⟩
@[simp] abbrev RN:cX:=⟨.map 57 3,1,8,[.map none],[]⟩
@[simp] abbrev RO:cX:=⟨.ptr 3,1,8,[.pointer none],[]⟩
@[simp] abbrev RP:cX:=⟨.ptr 56,1,8,[.pointer none],[]⟩
@[simp] abbrev RQ:cX:=⟨.ptr 281,1,8,[.pointer none],[]⟩
@[simp] abbrev RS:cX:=⟨.ptr 326,1,8,[.pointer none],[]⟩
@[simp] abbrev RT:cX:=⟨.slice 157,1,24,[.slice none 0 0],[]⟩
@[simp] abbrev RU:cX:=⟨.arr 6 310,12,144,[.string .empty,.int .i64 0,.string .empty,.int .i64 0,.string .empty,.int .i64 0,.string .empty,.int .i64 0,.string .empty,.int .i64 0,.string .empty,.int .i64 0],[.str,.int .i64,.str,.int .i64,.str,.int .i64,.str,.int .i64,.str,.int .i64,.str,.int .i64]⟩
@[simp] abbrev RW:cX:=⟨.arr 24 5,24,24,(B4 24 (.int .u8 0)),[]⟩
@[simp] abbrev RX:cX:=⟨.slice 310,1,24,[.slice none 0 0],[]⟩
@[simp] abbrev RY:cX:=⟨.arr 20 93,20,160,(B4 20 (.int .u64 0)),[]⟩
@[simp] abbrev RZ:cX:=⟨.arr 65 5,65,65,(B4 65 (.int .u8 0)),[]⟩
@[simp] abbrev Sa:cX:=⟨.ptr 5,1,8,[.pointer none],[]⟩
@[simp] abbrev Sb:cX:=⟨.ptr 340,1,8,[.pointer none],[]⟩
@[simp] abbrev Sc:cX:=⟨.struct [(0,9)],1,16,[.string .empty],[.str]⟩
def Hr:List (Nat×cX):=
 [(2,tI),(3,tI),(4,Xr),(5,CO),(6,CO),(9,CP),(10,CP),(11,CP),(12,xX),(21,Xs),(22,Xt),(23,Xu),(24,aZ),(25,Xv),(26,aZ),(27,QY),(28,Ab),(29,Ab),(30,QZ),(31,Ra),(32,aZ),(33,EH),(34,EH),(35,aZ),(36,Rb),(37,aZ),(38,Rc),(39,aZ),(40,aZ),(41,aZ),(42,aZ),(43,Rd),(44,Re),(45,EI),(46,EI),(47,aZ),(48,aZ),(49,aZ),(50,aZ),(51,Rg),(52,aZ),(53,aZ),(54,Rh),(55,EJ),(56,EJ),(57,tI),(59,aZ),(60,EK),(61,EK),(62,aZ),(63,aZ),(64,aZ),(65,aZ),(67,aZ),(68,aZ),(70,aZ),(71,aZ),(72,aZ),(74,aZ),(77,aZ),(78,aZ),(79,aZ),(80,aZ),(81,aZ),(82,aZ),(84,aZ),(85,aZ),(87,aZ),(90,Ri),(91,Rj),(92,Rk),(93,xX),(95,Rm),(96,aZ),(97,aZ),(99,Rn),(100,aZ),(103,aZ),(106,aZ),(110,aZ),(114,aZ),(115,aZ),(117,aZ),(119,aZ),(120,Ro),(122,aZ),(123,Rp),(125,Rq),(126,aZ),(128,EL),(129,aZ),(131,aZ),(132,aZ),(136,Rr),(138,Rs),(140,aZ),(143,aZ),(144,Ru),(145,aZ),(146,aZ),(148,EM),(149,EM),(151,aZ),(152,aZ),(155,Rv),(157,aZ),(158,Rw),(162,Ab),(165,aZ),(166,xX),(167,aZ),(171,aZ),(174,aZ),(176,aZ),(179,aZ),(181,aZ),(182,aZ),(185,Rx),(199,aZ),(204,Ry),(213,aZ),(214,Rz),(219,aZ),(229,RA),(231,RB),(232,RC),(235,tI),(247,RE),(248,RG),(249,RH),(251,RI),(263,RJ),(264,RK),(265,RL),(267,RM),(270,RN),(271,aZ),(281,xX),(285,RO),(289,RP),(297,RQ),(302,tI),(305,RS),(308,RT),(310,EL),(311,RU),(313,RW),(320,RX),(321,aZ),(329,RY),(330,RZ),(337,Sa),(338,Sb),(340,Sc),(346,CO)]
def T:TypeId->cX:=qE Hr
theorem hT:gI prog T:=Tp (by kernel_rfl)
theorem hW:DI T:=WH (by kernel_rfl)
@[simp] theorem t2:T 2=tI:=by kernel_rfl
@[simp] theorem t3:T 3=tI:=by kernel_rfl
@[simp] theorem t4:T 4=Xr:=by kernel_rfl
@[simp] theorem t5:T 5=CO:=by kernel_rfl
@[simp] theorem t6:T 6=CO:=by kernel_rfl
@[simp] theorem t9:T 9=CP:=by kernel_rfl
@[simp] theorem t10:T 10=CP:=by kernel_rfl
@[simp] theorem t11:T 11=CP:=by kernel_rfl
@[simp] theorem t12:T 12=xX:=by kernel_rfl
@[simp] theorem t21:T 21=Xs:=by kernel_rfl
@[simp] theorem t22:T 22=Xt:=by kernel_rfl
@[simp] theorem t23:T 23=Xu:=by kernel_rfl
@[simp] theorem t24:T 24=aZ:=by kernel_rfl
@[simp] theorem t25:T 25=Xv:=by kernel_rfl
@[simp] theorem t26:T 26=aZ:=by kernel_rfl
@[simp] theorem t27:T 27=QY:=by kernel_rfl
@[simp] theorem t28:T 28=Ab:=by kernel_rfl
@[simp] theorem t29:T 29=Ab:=by kernel_rfl
@[simp] theorem t30:T 30=QZ:=by kernel_rfl
@[simp] theorem t31:T 31=Ra:=by kernel_rfl
@[simp] theorem t32:T 32=aZ:=by kernel_rfl
@[simp] theorem t33:T 33=EH:=by kernel_rfl
@[simp] theorem t34:T 34=EH:=by kernel_rfl
@[simp] theorem t35:T 35=aZ:=by kernel_rfl
@[simp] theorem t36:T 36=Rb:=by kernel_rfl
@[simp] theorem t37:T 37=aZ:=by kernel_rfl
@[simp] theorem t38:T 38=Rc:=by kernel_rfl
@[simp] theorem t39:T 39=aZ:=by kernel_rfl
@[simp] theorem t40:T 40=aZ:=by kernel_rfl
@[simp] theorem t41:T 41=aZ:=by kernel_rfl
@[simp] theorem t42:T 42=aZ:=by kernel_rfl
@[simp] theorem t43:T 43=Rd:=by kernel_rfl
@[simp] theorem t44:T 44=Re:=by kernel_rfl
@[simp] theorem t45:T 45=EI:=by kernel_rfl
@[simp] theorem t46:T 46=EI:=by kernel_rfl
@[simp] theorem t47:T 47=aZ:=by kernel_rfl
@[simp] theorem t48:T 48=aZ:=by kernel_rfl
@[simp] theorem t49:T 49=aZ:=by kernel_rfl
@[simp] theorem t50:T 50=aZ:=by kernel_rfl
@[simp] theorem t51:T 51=Rg:=by kernel_rfl
@[simp] theorem t52:T 52=aZ:=by kernel_rfl
@[simp] theorem t53:T 53=aZ:=by kernel_rfl
@[simp] theorem t54:T 54=Rh:=by kernel_rfl
@[simp] theorem t55:T 55=EJ:=by kernel_rfl
@[simp] theorem t56:T 56=EJ:=by kernel_rfl
@[simp] theorem t57:T 57=tI:=by kernel_rfl
@[simp] theorem t59:T 59=aZ:=by kernel_rfl
@[simp] theorem t60:T 60=EK:=by kernel_rfl
@[simp] theorem t61:T 61=EK:=by kernel_rfl
@[simp] theorem t62:T 62=aZ:=by kernel_rfl
@[simp] theorem t63:T 63=aZ:=by kernel_rfl
@[simp] theorem t64:T 64=aZ:=by kernel_rfl
@[simp] theorem t65:T 65=aZ:=by kernel_rfl
@[simp] theorem t67:T 67=aZ:=by kernel_rfl
@[simp] theorem t68:T 68=aZ:=by kernel_rfl
@[simp] theorem t70:T 70=aZ:=by kernel_rfl
@[simp] theorem t71:T 71=aZ:=by kernel_rfl
@[simp] theorem t72:T 72=aZ:=by kernel_rfl
@[simp] theorem t74:T 74=aZ:=by kernel_rfl
@[simp] theorem t77:T 77=aZ:=by kernel_rfl
@[simp] theorem t78:T 78=aZ:=by kernel_rfl
@[simp] theorem t79:T 79=aZ:=by kernel_rfl
@[simp] theorem t80:T 80=aZ:=by kernel_rfl
@[simp] theorem t81:T 81=aZ:=by kernel_rfl
@[simp] theorem t82:T 82=aZ:=by kernel_rfl
@[simp] theorem t84:T 84=aZ:=by kernel_rfl
@[simp] theorem t85:T 85=aZ:=by kernel_rfl
@[simp] theorem t87:T 87=aZ:=by kernel_rfl
@[simp] theorem t90:T 90=Ri:=by kernel_rfl
@[simp] theorem t91:T 91=Rj:=by kernel_rfl
@[simp] theorem t92:T 92=Rk:=by kernel_rfl
@[simp] theorem t93:T 93=xX:=by kernel_rfl
@[simp] theorem t95:T 95=Rm:=by kernel_rfl
@[simp] theorem t96:T 96=aZ:=by kernel_rfl
@[simp] theorem t97:T 97=aZ:=by kernel_rfl
@[simp] theorem t99:T 99=Rn:=by kernel_rfl
@[simp] theorem aE7:T 100=aZ:=by kernel_rfl
@[simp] theorem aE8:T 103=aZ:=by kernel_rfl
@[simp] theorem aE9:T 106=aZ:=by kernel_rfl
@[simp] theorem aFa:T 110=aZ:=by kernel_rfl
@[simp] theorem aFb:T 114=aZ:=by kernel_rfl
@[simp] theorem aFc:T 115=aZ:=by kernel_rfl
@[simp] theorem aFd:T 117=aZ:=by kernel_rfl
@[simp] theorem aFe:T 119=aZ:=by kernel_rfl
@[simp] theorem aFf:T 120=Ro:=by kernel_rfl
@[simp] theorem aFg:T 122=aZ:=by kernel_rfl
@[simp] theorem aFh:T 123=Rp:=by kernel_rfl
@[simp] theorem aFi:T 125=Rq:=by kernel_rfl
@[simp] theorem aFj:T 126=aZ:=by kernel_rfl
@[simp] theorem aFk:T 128=EL:=by kernel_rfl
@[simp] theorem aFl:T 129=aZ:=by kernel_rfl
@[simp] theorem aFm:T 131=aZ:=by kernel_rfl
@[simp] theorem aFn:T 132=aZ:=by kernel_rfl
@[simp] theorem aED:T 136=Rr:=by kernel_rfl
@[simp] theorem aFo:T 138=Rs:=by kernel_rfl
@[simp] theorem aFp:T 140=aZ:=by kernel_rfl
@[simp] theorem t143:T 143=aZ:=by kernel_rfl
@[simp] theorem aEE:T 144=Ru:=by kernel_rfl
@[simp] theorem t145:T 145=aZ:=by kernel_rfl
@[simp] theorem aFq:T 146=aZ:=by kernel_rfl
@[simp] theorem aFr:T 148=EM:=by kernel_rfl
@[simp] theorem aFs:T 149=EM:=by kernel_rfl
@[simp] theorem aFt:T 151=aZ:=by kernel_rfl
@[simp] theorem aFu:T 152=aZ:=by kernel_rfl
@[simp] theorem aDK:T 155=Rv:=by kernel_rfl
@[simp] theorem aFv:T 157=aZ:=by kernel_rfl
@[simp] theorem aFw:T 158=Rw:=by kernel_rfl
@[simp] theorem aFx:T 162=Ab:=by kernel_rfl
@[simp] theorem aFy:T 165=aZ:=by kernel_rfl
@[simp] theorem aFz:T 166=xX:=by kernel_rfl
@[simp] theorem t167:T 167=aZ:=by kernel_rfl
@[simp] theorem t171:T 171=aZ:=by kernel_rfl
@[simp] theorem aFA:T 174=aZ:=by kernel_rfl
@[simp] theorem aFB:T 176=aZ:=by kernel_rfl
@[simp] theorem aFC:T 179=aZ:=by kernel_rfl
@[simp] theorem aFD:T 181=aZ:=by kernel_rfl
@[simp] theorem aFE:T 182=aZ:=by kernel_rfl
@[simp] theorem aFF:T 185=Rx:=by kernel_rfl
@[simp] theorem aFG:T 199=aZ:=by kernel_rfl
@[simp] theorem aFH:T 204=Ry:=by kernel_rfl
@[simp] theorem t213:T 213=aZ:=by kernel_rfl
@[simp] theorem aFI:T 214=Rz:=by kernel_rfl
@[simp] theorem aFJ:T 219=aZ:=by kernel_rfl
@[simp] theorem aFK:T 229=RA:=by kernel_rfl
@[simp] theorem aFL:T 231=RB:=by kernel_rfl
@[simp] theorem t232:T 232=RC:=by kernel_rfl
@[simp] theorem aFM:T 235=tI:=by kernel_rfl
@[simp] theorem aFN:T 247=RE:=by kernel_rfl
@[simp] theorem aFO:T 248=RG:=by kernel_rfl
@[simp] theorem aFP:T 249=RH:=by kernel_rfl
@[simp] theorem aFQ:T 251=RI:=by kernel_rfl
@[simp] theorem aFR:T 263=RJ:=by kernel_rfl
@[simp] theorem aFS:T 264=RK:=by kernel_rfl
@[simp] theorem aFT:T 265=RL:=by kernel_rfl
@[simp] theorem aFU:T 267=RM:=by kernel_rfl
@[simp] theorem aFV:T 270=RN:=by kernel_rfl
@[simp] theorem aFW:T 271=aZ:=by kernel_rfl
@[simp] theorem aFX:T 281=xX:=by kernel_rfl
@[simp] theorem aFY:T 285=RO:=by kernel_rfl
@[simp] theorem aFZ:T 289=RP:=by kernel_rfl
@[simp] theorem aF0:T 297=RQ:=by kernel_rfl
@[simp] theorem aF1:T 302=tI:=by kernel_rfl
@[simp] theorem aF2:T 305=RS:=by kernel_rfl
@[simp] theorem aF3:T 308=RT:=by kernel_rfl
@[simp] theorem aF4:T 310=EL:=by kernel_rfl
@[simp] theorem aF5:T 311=RU:=by kernel_rfl
@[simp] theorem aF6:T 313=RW:=by kernel_rfl
@[simp] theorem aF7:T 320=RX:=by kernel_rfl
@[simp] theorem aF8:T 321=aZ:=by kernel_rfl
@[simp] theorem aF9:T 329=RY:=by kernel_rfl
@[simp] theorem aGa:T 330=RZ:=by kernel_rfl
@[simp] theorem aGb:T 337=Sa:=by kernel_rfl
@[simp] theorem aGc:T 338=Sb:=by kernel_rfl
@[simp] theorem aGd:T 340=Sc:=by kernel_rfl
@[simp] theorem aGe:T 346=CO:=by kernel_rfl
open Go.RowKit
def IsRow(k:IntKind)(w:World)(a:Option Addr)(len cap:Nat)(zs:List Int):Prop:=
 (a=none/\len=0/\cap=0/\zs=[])\/
 ∃x,a=some x/\len<=cap/\cap<=maxLen/\zs.length=cap/\(∀i,i<zs.length->w.cell? (x.add i)=some (.int k (zs.getD i 0)))/\∀n∈zs,(Lit.int k n).wf=true
theorem aAW{n:Int}(h:(Lit.int .i64 n).wf=true): -9223372036854775808<=n/\n<=9223372036854775807:=by
 simp only[Lit.wf,G7,decide_eq_true_eq,IntKind.min,IntKind.max,IntKind.signed,IntKind.bits]at h;exact⟨h.1,h.2⟩
theorem aEv{w:World}{a:Option Addr}{b d:Nat}{e:List Int}(h:IsRow .i64 w a b d e):∀n∈e.take b, -9223372036854775808<=n/\n<=9223372036854775807:=λn c=>by
 have c:=C0 c;rcases h with⟨_,_,_,rfl⟩|⟨x,_,_,_,_,_,h⟩
 .cases c
 .exact aAW (h n c)
theorem aEF{w:World}{k:IntKind}{a:Option Addr}{c g:Nat}{f:List Int}(h:IsRow k w a c g f):RD w (λ_=>False) (.sl ((f.take c).map (.int k))) (.slice a c g):=by
 rcases h with⟨rfl,rfl,rfl,rfl⟩|⟨x,rfl,D,A,I,F,J⟩
 .exact .sl0 _ 0 (J0 _)
 .by_cases C:c=0
  .subst C;rw[L3];exact .sl0 _ g A
  .obtain⟨b,o,rfl,B⟩:=ints_at F aE;have p:((f.take c).map (DV.int k)).length=c:=jJ;have r:bY ((f.take c).map (DV.int k))=(f.take c).map (DV.int k):=by
    unfold bY;rw[List.flatMap_map];induction f.take c with
    |nil=>rfl
    |cons a l ih=>rw[F9,ih];rfl
   have:=RD.sl (w:=w) (E:=λ_=>False) ((f.take c).map (.int k)) b o g 1 ((f.take c).map (.int k)) (λe=>by rw[e]at p;simp at p;omega) (λh=>h) (λx H=>by obtain⟨n,_,rfl⟩:=B9.1 H;rfl)
    (by rw[p];exact D) A bC (λu G=>by obtain⟨n,_,rfl⟩:=B9.1 G;rfl) (aAz (B 0 aE)) (λj u s=>by
      have t:j<c:=by
       have:=(A8.1 s).1;simp at this;omega
      have z:j<f.length:=aE;have:=B j z;rw[this];simp[t,z]at s;simp[z,s]) (λi d v m y=>by
      rw[r]at m;simp only[List.getElem?_map]at m y;cases q:(f.take c)[i]? with
      |none=>rw[q]at m;cases m
      |some n=>rw[q]at m y;cases m;cases y;exact .int k n)
   rw[p]at this;exact this
theorem Oa.nil{w:World}{E:Nat->Prop}:Oa w E [] []:=⟨rfl,λi c v h=>by simp at h⟩
theorem Oa.cons{w:World}{E:Nat->Prop}{d:DV}{v:Value}{e:List DV}{vs:List Value}(h:RD w E d v)(f:Oa w E e vs):Oa w E (d::e) (v::vs):=
 ⟨by simp[f.1],λi c u a b=>by
   cases i with
   |zero=>simp at a b;subst a;subst b;exact h
   |succ i=>exact f.2 i c u (by simpa using a) (by simpa using b)⟩
theorem aDz{P:Program}{f:FuncId}{a:List DV}{c:Bool}(h:Ok P f a ⟨.d (.bool true),c⟩)(w:World)(b:List Value)(l:Oa w (λ_=>False) a b)(k:AS w (λ_=>False):=by intro n o h;simp[Go.Eng.globD]at h):
 Calls P f b.toArray w λe m=>e=.returned (.bool true)/\Below w.heap.size w m:=
 (h.2 w (λ_=>False) b ⟨λ_ h=>h.elim,k⟩ l).mono λ_ _ ⟨v,d,g,i⟩=>by
   obtain⟨_,j⟩:=i;cases j;exact⟨d,g.below⟩
theorem CH.own_d{w r:World}{E t:Nat->Prop}{B:Option Nat}{s:Nat}{m:List DV}{v:Value}(h:CH w r E B (.own s m) v)(I:∀k,t k->k<w.heap.size)(x:∀k,t k->E k):RD r t (.sl m) v:=by
 obtain⟨N,o,h⟩:=h;rcases h with⟨_,rfl,a,rfl⟩|⟨b,c,g,e,_,rfl,M,l,G,F,y,f⟩
 .exact .sl0 a 0 (J0 _)
 .by_cases H:m=[]
  .subst H;exact .sl0 _ c F
  .have z:=flat_len o;have K:m.length*s<=g.size:=by rw[<-y];exact G8 _ G
   have D:b<r.heap.size:=(A0.1 l).1;refine .sl m b 0 c s (g.toList.take (m.length*s)) H (λq=>by have:=I b q;omega) o G F jJ (λu L=>?_) D (λj u n=>?_) (λi d v J p=>?_)
   .obtain⟨j,n,rfl⟩:=E0 L;simp only[C8,F6]at n;have A:j<g.size:=aE;have C:j<(bY m).length:=by rw[z];omega
    simp only[List.getElem_take,Array.getElem_toList];exact(f j _ _ (A5 C) (H7 A)).1
   .rw[cell_of_row r b _ g e (0,0) l,I2];rw[F0]at n;split at n
    .simpa using n
    .cases n
   .rw[F0]at p;split at p
    .exact((f i d v J (by simpa using p)).2).anti x
    .cases p
theorem HX{P:Program}{f:FuncId}{a:List DV}{s:Nat}{j:List DV}{y:DV}{c:Bool}(h:Ok P f a ⟨.tup [.own s j,.d y],c⟩):Ok P f a ⟨.tup [.d (.sl j),.d y],c⟩:=
 ⟨h.1,λw X x e p=>(h.2 w X x e p).mono λ_ _ ⟨v,l,m,t,B,n,o,z,d⟩=>
   ⟨v,l,m,t,λ_=>none,n,o,λ_ _ _ q=>(by cases q),λi r u b g=>by
     match i,b with
     |0,b=>
      cases b;exact(d 0 _ u rfl g).own_d (λk q=>by
       rcases q with(q|⟨_,q⟩)|⟨_,q⟩
       .exact e.1 k q
       .exact q
       .cases q) (λk q=>by
       rcases q with q|⟨_,q⟩
       .exact .inl q
       .cases q)
     |1,b=>
      cases b;exact RD.anti (λk q=>by
       rcases q with q|⟨_,q⟩
       .exact .inl q
       .cases q) (d 1 _ u rfl g)⟩⟩
section
open Go.RowKit
section
variable{P:Program} {T:TypeId->cX} {w0:dH} {X:Nat->Prop} {env:eO} {H:dQ}
def Sd(w0:dH)(T:TypeId->cX)(t:Nat)(ty:TypeId)(fin:List (Nat×bI))(ret:LV)(x:LX)(env:eO)(H:dQ):Prop:=
 (match x with| .exit _=>False|_=>True)/\(sR T H ty (env t)).ok/\jD w0 (aQ [(0,(sR T H ty (env t)).v)]) H (aQ [(0,ret)]) (aL fin)
theorem bO{t:Nat}{c:TypeId}{a:List (Nat×bI)}{b:LV}:Sd w0 T t c a b .ret env H↔(sR T H c (env t)).ok/\jD w0 (aQ [(0,(sR T H c (env t)).v)]) H (aQ [(0,b)]) (aL a):=by simp[Sd]
theorem iP.cell(hT:gI P T){f:FuncId}{k:Func}{c:Code}{b:List LV}{h j:List (Nat×bI)}{d:LV}{n t:Nat}{m:TypeId}(z:P.funcs[f]? =some k)(i:(k.name== "runtime.NumGoroutine")=false)(y:k.body=some c)(A:k.ntmps=n)(g:b.length<=n)(l:k.results= #[.cell t m])
 (E:∀w0 X,w0.pins=h.map (·.1)->fL P n w0 X c (Sd w0 T t m j d) (JK b) (aL h)):iP P f b h j d:=
 xW z i y A g λw0 X B=>(E w0 X B).mono λx env H ⟨q,r,u⟩=>⟨q,λβ a w s=>by
  obtain⟨v,D,C⟩:=xV hT s r;have F:nD 1 w0 X (aQ [(0,(sR T H m (env t)).v)]) H β ⟨#[v],[]⟩ w:=by
   refine⟨HB.nil,rfl,s.ext,s.xold,s.fresh,s.inj,λp=>?_,s.obj,s.pin⟩;cases p with
   |zero=>exact C
   |succ p=>exact .junk _
  obtain⟨G,o⟩:=u _ _ _ _ _ F;have e:=o.env 0;rw[show aQ [(0,d)] 0=d by simp[aQ,qD]]at e;refine⟨v,G,?_,o.mem,e⟩;simp only[results,l];simpa [Sem.run_bind,Result.andThen]using D⟩
theorem bH{l:LV}{x:DV}{a:eO}{b:dQ}(h:Eng.close H 8 l=some x)(k:jD w0 (aQ [(0,.d x)]) (cA H (bQ H (bX H 8 l))) a b):jD w0 (aQ [(0,l)]) H a b:=by
 have e:cK (aQ [(0,l)]) 0 (.d x)=aQ [(0,.d x)]:=by
  funext j;by_cases q:j=0
  .subst q;rfl
  .rw[cJ _ _ q];simp[aQ,qD,q,Ne.symm q]
 have z:aQ [(0,l)] 0=l:=by simp[aQ,qD]
 have c:=jD.close (w0:=w0) (H:=H) (env:=aQ [(0,l)]) 0 (x:=x) (by rw[z];exact h);rw[e,z]at c;exact c.trans k
theorem Xw{β:Nat->Option Nat}{w:World}(m:dX w0 X H β w){id b:Nat}(e:(H id).live=true)(h:(H id).mut=false)(d:β id=some b):¬Ex X β H b:=λc=>by
 have g:=m.fresh id b e d;rcases c with c|⟨i,a,f⟩
 .rcases g.1 with a|a
  .have:=(m.xold.1 b c).1;omega
  .exact(m.xold.1 b c).2 a.1
 .have:=m.inj i id b (bR a) e f d;subst this;rw[h]at a;cases a
theorem jD.freeze(ids:List Nat):jD w0 env H env (cA H (bQ H ids)):=λN X β a w s=>by
 obtain⟨m,g⟩:=s.mem.freeze ids;exact⟨β,g.marks s.defers,s.size,m.ext,m.xold,m.fresh,m.inj,λu=>g.R (s.env u),m.obj,m.pin⟩
theorem jD.shut(b:Nat){l:Bool}{g:List LV}{j:List DV}(q:H b=.box l g)(h:cS (g.map (Eng.close H 8))=some j)(x:∀c∈g,∀id∈bX H 8 c,(H id).mut=false):jD w0 env H env (cK H b (.box l (j.map .d))):=λN X β a w s=>by
 obtain⟨o,p⟩:=jS h;obtain⟨e,m⟩:=s.mem.rebox (cs':=j.map .d) q (by simp[o]) (λi c y v n k t=>by
  obtain⟨d,r,rfl⟩:=eT k;have f:=p i _ _ n r;exact .d _ _ (oY s.mem.obj (λ_ _ h=>h) 8 c d v f (λid hid b hb=>Xw s.mem (nY 8 c d f id hid) (x c (G9 n) id hid) hb) t))
 exact⟨β,m.marks s.defers,s.size,e.ext,e.xold,e.fresh,e.inj,λu=>m.R (s.env u),e.obj,e.pin⟩
theorem bV(b:Nat)(a:List Nat){fz:Bool}{cs:List LV}{ds:List DV}(hH:H b=.box fz cs)(d:b∉a)(h:cS (cs.map (Eng.close (cA H (bQ H a)) 8))=some ds)
 (e:∀c∈cs,∀id∈bX (cA H (bQ H a)) 8 c,(cA H (bQ H a) id).mut=false):jD w0 env H env (cK (cA H (bQ H a)) b (.box fz (ds.map .d))):=
 (jD.freeze a).trans (jD.shut b (by rw[fD,if_neg d];exact hH) h e)
theorem AX{ι:Type}{E:ι->eO}{O:ι->dQ}{I:ι->Prop}{μ:ι->Nat}{i:ι}{a:eO}{b:dQ}(h:jD w0 env H a b)(k:QT w0 E O I μ i a b):QT w0 E O I μ i env H:=by
 obtain⟨j,c,r⟩:=k;exact⟨j,h.trans c,r⟩
theorem iT{ι:Type}{E:ι->eO}{O:ι->dQ}{I:ι->Prop}{a:eO}{b:dQ}(h:jD w0 env H a b)(k:∃i,jD w0 a b (E i) (O i)/\I i):∃i,jD w0 env H (E i) (O i)/\I i:=by
 obtain⟨i,c,r⟩:=k;exact⟨i,h.trans c,r⟩
end
end
section
open Go.RowKit
structure aAX where
 ds:List DV
 vs:List Value
 rd:∀w E,Oa w E ds vs
def Xx(P:Program)(f:FuncId)(caps:List DV)(items:List aAX):Prop:=
 rE P f/\∀(w:World) (X:Nat->Prop) (lb:List Value) (l:Nat) (J:(Nat->Prop)->Nat->World->Prop),aAA w X->Oa w X caps lb->
  (∀W,Bz w.heap.size w W->J (λk=>w.heap.size<=k/\k<W.heap.size) 0 W)->
  (∀K i W W',J K i W->Bz W.heap.size W W'->J (λk=>K k\/W.heap.size<=k/\k<W'.heap.size) i W')->
  (∀K i W (x:aAX),J K i W->items[i]? =some x->YieldAt Fence.wide 0 P l x.vs.toArray W λe W'=>e=.returned (.bool true)/\J K (i+1) W'/\W.heap.size<=W'.heap.size/\∀k,K k\/(k<w.heap.size/\¬X k)->W'.heap[k]? =W.heap[k]?)->
  Calls P f (#[.func (.yield l) #[] #[]]++lb.toArray) w λe W'=>(∃v,e=.returned v)/\∃K,J K items.length W'
section
variable{P:Program} {T:TypeId->cX} {N:Nat} {w0:dH} {X:Nat->Prop} {Q:LX->eO->dQ->Prop} {env:eO} {H H':dQ} {β β':Nat->Option Nat} {w w':World}
theorem dX.rebase(m:dX w0 X H β w)(a:List Nat)(l:∀id,H id≠ .absent->id∈a):dX ⟨w,β,H,a,true⟩ X H β w:=by
 have i:∀{id},(H id).live=true->id∈a:=λ{id} h=>l id λe=>by rw[e]at h;cases h
 have c:∀k,dH.mine ⟨w,β,H,a,true⟩ k->w0.w.heap.size<=k\/w0.mine k:=λk ⟨id,_,d,f⟩=>(m.fresh id k d f).1.imp (λh=>h) And.left;refine⟨⟨rfl,rfl,rfl,A4 _,λ_ _ _=>rfl,A4 _⟩,⟨λk g=>⟨?_,?_⟩,?_⟩,λid b h hb=>⟨.inr ⟨⟨id,i h,h,hb⟩,λj=>⟨id,i h,j,hb⟩⟩,(m.fresh id b h hb).2⟩,m.inj,m.obj,λid _=>bW.refl id⟩
 .exact B8 (m.xold.1 k g).1 m.ext.size
 .intro h;rcases c k h with h|h
  .have:=(m.xold.1 k g).1;omega
  .exact(m.xold.1 k g).2 h
 .refine m.globL.anti λk h=>h.imp (λh=>h) ?_;rintro⟨id,_,d,f⟩;exact⟨id,d,f⟩
theorem dX.unbase{e:List Nat}(m:dX w0 X H β w)(u:∀id,H id≠ .absent->id∈e)(c:dX ⟨w,β,H,e,true⟩ X H' β' w'):dX w0 X H' β' w'/\fG X H β w H' β' w':=by
 have d:∀id,bW w β H w' β' H' id:=λid=>by
  by_cases h:H id=.absent
  .unfold bW;rw[h];trivial
  .exact c.pin id (u id h)
 have a:∀k,dH.own ⟨w,β,H,e,true⟩ k->∃id,(H id).mut=true/\β id=some k:=λk ⟨id,_,f,l⟩=>⟨id,f,l⟩;have g:fG X H β w H' β' w':=by
  refine⟨c.ext.size,λk n o=>c.ext.block k n λh=>o (.inr (a k h)),λk n h=>?_,d⟩;rcases h with h|⟨id,f,l⟩
  .exact .inl h
  .rcases(c.fresh id k (bR f) l).1 with h|h
   .exact absurd n (Nat.not_lt.2 h)
   .exact .inr (a k (h.2 f))
 refine⟨⟨⟨c.ext.os.trans m.ext.os,c.ext.tape.trans m.ext.tape,c.ext.output.trans m.ext.output,C6 m.ext.size c.ext.size,λk n o=>?_,C6 m.ext.drawn c.ext.drawn⟩,m.xold,λid b hl hb=>⟨?_,(c.fresh id b hl hb).2⟩,c.inj,c.obj,
  λid hid=>(m.pin id hid).trans (d id)⟩,g⟩
 .refine(c.ext.block k (B8 n m.ext.size) λh=>?_).trans (m.ext.block k n o);obtain⟨id,f,l⟩:=a k h;rcases(m.fresh id k (bR f) l).1 with h|h
  .omega
  .exact o (h.2 f)
 .rcases(c.fresh id b hl hb).1 with h|⟨⟨i,_,f,l⟩,r⟩
  .exact .inl (C6 m.ext.size h)
  .rcases(m.fresh i b f l).1 with h|⟨h,q⟩
   .exact .inl h
   .refine .inr ⟨h,λt=>?_⟩;obtain⟨j,p,s⟩:=a b (r t);have:i=j:=m.inj i j b f (bR p) l s;subst this;exact q p
theorem fG.still{a:dQ}{c:Nat->Option Nat}{u:World}{l:Nat}{o:Obj}(g:fG X a c u H β w)(b:Obj)(h:w.heap[l]? =some o)(d:tP o=false)(i:u.heap.size<=l):fG X a c u H β (w.putObj l b):=
 ⟨by rw[World.putObj_size];exact g.size,λk e f=>(World.putObj_heap_other aE).trans (g.blk k e f),g.sub,λid=>(g.pass id).trans (AV b h d id)⟩
theorem dX.forget(m:dX w0 X H β w)(a:List Nat)(d:a.Nodup)(i:∀id∈w0.pins,id∈a):
 ∃β',dX w0 X (aL (a.map λp=>(p,cY (a.map λp=>(p,p)) (H p)))) β' w/\(∀id∈a,β' id=β id/\aL (a.map λp=>(p,cY (a.map λp=>(p,p)) (H p))) id=cY (a.map λp=>(p,p)) (H id))/\
  (∀id,(aL (a.map λp=>(p,cY (a.map λp=>(p,p)) (H p))) id).live=true->id∈a):=by
 have b:∀l:List Nat,∀id∈l,dN (l.map λp=>(p,p)) id=some id:=λl id h=>by
  induction l with
  |nil=>cases h
  |cons p r ih=>
   by_cases e:id=p
   .simp[dN,e]
   .simp only[F5,dN,if_neg e];exact ih ((J6.1 h).resolve_left e)
 have s:nD 0 w0 X (λ_=>.junk) H β ⟨#[],[]⟩ w:=⟨HB.nil,rfl,m.ext,m.xold,m.fresh,m.inj,λ_=>.junk _,m.obj,m.pin⟩;obtain⟨β',g,h⟩:=QR [] (a.map λp=>(p,p)) (by rw[I3,show((λx:Nat×Nat=>x.snd)∘λp=>(p,p))=id from rfl,K7];exact d) (by rw[I3,show((λx:Nat×Nat=>x.fst)∘λp=>(p,p))=id from rfl,K7];exact d) (λid hid=>b a id (i id hid)) 0 X β _ w s;simp only[I3]at g h;refine⟨β',g.mem,λid hid=>⟨(h id id (b a id hid)).2,(h id id (b a id hid)).1⟩,λid hl=>?_⟩;have c:∀(l:List Nat) (f:Nat->bI),(fU (l.map λp=>(p,f p)) id).live=true->id∈l:=λl f=>by
  induction l with
  |nil=>intro h;cases h
  |cons p r ih=>
   intro h;by_cases e:id=p
   .simp[e]
   .simp only[F5,fU,if_neg e]at h;exact D7 _ (ih h)
 exact c a _ hl
def xY(env:eO):List Nat->List DV->eO
 |p::ps,d::ds=>xY (cK env p (.d d)) ps ds
 |_,_=>env
theorem Xy{E:Nat->Prop}:∀(g:List Nat) (a:List DV) (f:List Value) (env:eO) (b:Array Value),f.length=g.length->Oa w E a f->(∀p∈g,p<b.size)->(∀t,Eng.R w E β H (env t) (b.getD t undef))->
 ∀t,Eng.R w E β H (xY env g a t) (((g.zip f).foldl (λb (p,v)=>b.setIfInBounds p v) b).getD t undef):=by
 intro g;induction g with
 |nil=>intro a f env b j _ _ h;cases a<;>exact h
 |cons p g ih=>
  intro a f env b j k l h
  match f,j with
  |v::f,j=>
  match a,k.1 with
  |d::a,hrl=>
  simp only[List.zip_cons_cons,K8,xY];refine ih a f _ _ (by simpa using j) ⟨by simpa using hrl,λi c u m r=>k.2 (i+1) c u (by simpa using m) (by simpa using r)⟩ (λq o=>by simp;exact l q (D7 _ o)) λt=>?_;have n:p<b.size:=l p (J7 ..);unfold cK;by_cases e:t=p
  .subst e;simp[C7,n];exact .d _ _ (k.2 0 d v rfl rfl)
  .rw[if_neg e];have:=h t;simp only[C7]at this|-
   rwa[G5 (Ne.symm e)]
theorem FO:∀(l:List (Nat×Value)) (a:Array Value),(l.foldl (λa (p,v)=>a.setIfInBounds p v) a).size=a.size
 |[],_=>rfl
 |x::l,a=>by simp only[K8];rw[FO l];simp
theorem TW:∀{a b:List Nat},a.map (λD=>({target:=.collected D,args:= #[]}:Deferred))=b.map (λD=>{target:=.collected D,args:= #[]})->a=b:=by
 intro a;induction a with
 |nil=>intro b h;cases b with
  |nil=>rfl
  |cons _ _=>cases h
 |cons x a ih=>intro b h;cases b with
  |nil=>cases h
  |cons y b=>
   simp only[F5,List.cons.injEq,Deferred.mk.injEq,Target.collected.injEq]at h;rw[h.1.1,ih h.2]
def LN(w1:dH)(E':eO)(O':dQ)(x:LX)(env':eO)(H':dQ):Prop:=(match x with| .normal=>True|_=>False)/\jD w1 env' H' E' O'
theorem bK{d:dH}{b:eO}{c:dQ}{a:eO}{H':dQ}:LN d b c .normal a H'↔jD d a H' b c:=by simp[LN]
theorem fL.rangeFunc{g:Operand}{ps:Array Tmp}{assign body:Code}{f:FuncId}{caps:List DV}{items:List aAX}(hIt:Xx P f caps items)(hg:lC env g=.d (.fn f caps))(hps:∀x∈items,x.vs.length=ps.size)(hN:∀p∈ps.toList,p<N)
 (hc1:oB assign=true)(hc2:oB body=true)(O O2:Nat->dQ)(hO:O 0=H)(pins:List Nat)(hnd:pins.Nodup)(hw0:∀id∈w0.pins,id∈pins)(hpin:∀i id,O i id≠ .absent->id∈pins)
 (E1:Nat->eO)(O1:Nat->dQ)(pins1:List Nat)(hpin1:∀i id,O1 i id≠ .absent->id∈pins1)
 (hO2:∀i,i<items.length->O (i+1)=aL (pins.map λp=>(p,cY (pins.map λp=>(p,p)) (O2 i p))))
 (ha:∀(w1:dH) X1 i x,w1.pins=pins->items[i]? =some x->fL P N w1 X1 assign (LN w1 (E1 i) (O1 i)) (xY env ps.toList x.ds) (O i))
 (hb:∀(w1:dH) X1 i x,w1.pins=pins1->items[i]? =some x->fL P N w1 X1 body (LN w1 (aQ []) (O2 i)) (E1 i) (O1 i))
 (hq:Q .normal env (O items.length)):fL P N w0 X (.rangeFunc g ps assign body) Q env H:=by
 intro r hr β a w s;obtain⟨hn,hfl⟩:=hr.resolve_right (by simp[oB]);subst hn;refine wpIn_rangeFunc λfn _=>?_;have hrd:=s.get g;rw[hg]at hrd;obtain⟨lb,hev,hlb⟩:∃lb:List Value,a.eval g=.func (.func f) #[] lb.toArray/\Oa w (Ex X β H) caps lb:=by
  obtain⟨gv,hgv⟩:∃gv,a.eval g=gv:=⟨_,rfl⟩;rw[hgv]at hrd|-;cases hrd with
  |d _ _ h=>cases h with
   |fn _ _ vs hl hc=>exact⟨vs,rfl,hl,hc⟩
 obtain⟨rec,hrec⟩:∃rec:LoopState->Option Code->Loop,rec=λst pe=>{state:=st,pending:=pe,fn,tmps:=a.tmps,params:=ps,assign,body,defers:=w.heap.size}:=⟨_,rfl⟩;obtain⟨W1,hW1⟩:∃W1,(w.alloc (.deferred (some []))).alloc (.loop (rec .ready none))=W1:=⟨_,rfl⟩;have hL1:W1.heap[w.heap.size+1]? =some (.loop (rec .ready none)):=by
  rw[<-hW1];have:=World.alloc_heap_new (w.alloc (.deferred (some []))) (.loop (rec .ready none));rwa[World.size_alloc]at this
 have hK1:W1.heap[w.heap.size]? =some (.deferred (some [])):=by
  rw[<-hW1];exact(Below.heap_alloc _ _ _ bC).trans (World.alloc_heap_new w _)
 have hs1:W1.heap.size=w.heap.size+2:=by rw[<-hW1];simp
 have bel1:Bz w.heap.size w W1:=by
  refine⟨by rw[<-hW1];rfl,by rw[<-hW1];rfl,by rw[<-hW1];rfl,aE,λk hk=>?_,by rw[<-hW1];exact A4 _⟩;rw[<-hW1,Below.heap_alloc _ _ _ (by rw[World.size_alloc];omega),Below.heap_alloc _ _ _ hk]
 obtain⟨mw1,gw1⟩:=s.mem.grow bel1;have hold:∀id b,(H id).live=true->β id=some b->b<w.heap.size:=λid b h1 h2=>(s.fresh id b h1 h2).2;have hxo:∀k,Ex X β H k->k<w.heap.size:=λk h=>by
  rcases h with h|⟨id,h1,h2⟩
  .exact B8 (s.xold.1 k h).1 s.ext.size
  .exact hold id k (bR h1) h2
 obtain⟨fn',hfn',hname',hbody'⟩:=hIt.1;have eg:∀args w,(callFunc f args).run P w=.ok (.enter f args) w:=λargs w=>by
  have hbn:fn'.body.isNone=false:=by cases q:fn'.body<;>simp_all
  simp only[callFunc,Sem.run_bind,Sem.run_pure,Result.andThen_ok,run_program,hfn',hname',H4,if_false,hbn]
 refine⟨w.heap.size+1,[{target:=.collected w.heap.size,args:= #[]}],W1,{target:=.fn (.func f) lb.toArray,args:= #[.func (.yield (w.heap.size+1)) #[] #[]]},W1,f,
  #[.func (.yield (w.heap.size+1)) #[] #[]]++lb.toArray,W1,?_,?_,λ_ _=>trivial,?_,λh=>(by cases h),callsIn_wide.2 ?_⟩
 .rw[<-hW1,hrec];exact run_enterLoop_outer _ _ _ _ _
 .simp only[resolve,hev];simp[go_sem]
 .simp[invoke,go_sem,eg]
 have ow:aAA W1 (Ex X β H):=⟨λk hk=>by have:=hxo k hk;omega,mw1.glob⟩;have lb1:Oa W1 (Ex X β H) caps lb:=⟨hlb.1,λi c v hc hv=>gw1.D (hlb.2 i c v hc hv)⟩;obtain⟨J,hJ⟩:∃J:(Nat->Prop)->Nat->World->Prop,J=λK i W=>∃β',dX w0 X (O i) β' W/\fG X H β w (O i) β' W/\W.heap[w.heap.size+1]? =some (.loop (rec .ready none))/\W.heap[w.heap.size]? =some (.deferred (some []))/\
  (∀id b,(O i id).live=true->β' id=some b->b<w.heap.size\/(¬K b/\w.heap.size+1<b))/\∀k,K k->w.heap.size+1<k/\k<W.heap.size:=⟨_,rfl⟩
 refine(hIt.2 W1 (Ex X β H) lb (w.heap.size+1) J ow lb1 ?_ ?_ ?_).mono ?_
 .intro W bel;rw[hJ];obtain⟨m2,g2⟩:=mw1.grow bel;refine⟨β,by rw[hO];exact m2,by rw[hO];exact gw1.trans g2,(bel.block _ aE).trans hL1,(bel.block _ aE).trans hK1,λid b h1 h2=>.inl (by rw[hO]at h1;exact hold id b h1 h2),λk hk=>⟨aE,hk.2⟩⟩
 .intro K i W W' hj bel;rw[hJ]at hj|-;obtain⟨β',m,gg,q1,q2,q3,q4⟩:=hj;obtain⟨m2,g2⟩:=m.grow bel;have hlt1:=(A0.1 q1).1;refine⟨β',m2,gg.trans g2,(bel.block _ hlt1).trans q1,(bel.block _ aE).trans q2,λid b h1 h2=>?_,λk hk=>?_⟩
  .rcases q3 id b h1 h2 with h|⟨h,h'⟩
   .exact .inl h
   .refine .inr ⟨λhk=>?_,h'⟩;rcases hk with hk|hk
    .exact h hk
    .have:=(m.fresh id b h1 h2).2;omega
  .have:=bel.size;rcases hk with hk|hk
   .have:=q4 k hk;omega
   .omega
 .intro K i W x hj hx;have hjW:=hj;rw[hJ]at hj;obtain⟨β',m,gg,q1,q2,q3,q4⟩:=hj;have hlt1:=(A0.1 q1).1;have hi:i<items.length:=(A8.1 hx).1;have hxl:=hps x (G9 hx);have hl0:w0.w.heap.size<=w.heap.size:=s.ext.size;have hy:=run_yield (P:=P) (args:=x.vs.toArray) q1 (by rw[hrec];simpa using hxl);refine⟨_,_,_,_,hy,?_⟩;rw[hrec];refine roundIn_of_wpIn trivial ?_;have mA:=m.rebase pins (hpin i);have hsz:(x.vs.toArray.size=ps.size):=by simpa using hxl
  have hfold:(ps.zip x.vs.toArray).foldl (λtmps (t,v)=>tmps.setIfInBounds t v) a.tmps=(ps.toList.zip x.vs).foldl (λtm (p,v)=>tm.setIfInBounds p v) a.tmps:=by
   rw[<-Array.foldl_toList];simp
  have sA:nD N ⟨W,β',O i,pins,true⟩ X (xY env ps.toList x.ds) (O i) β' ⟨(ps.zip x.vs.toArray).foldl (λtmps (t,v)=>tmps.setIfInBounds t v) a.tmps,[]⟩ W:=by
   refine⟨HB.nil,?_,mA.ext,mA.xold,mA.fresh,mA.inj,λt=>?_,mA.obj,mA.pin⟩
   .rw[hfold,FO];exact s.size
   .simp only[hfold];exact Xy ps.toList x.ds x.vs env a.tmps (by simpa using hxl) (x.rd _ _) (λp hp=>by rw[s.size];exact hN p hp) (λt=>gg.R (s.env t)) t
  refine wpIn_mono (ha ⟨W,β',O i,pins,true⟩ X i x rfl hx (some (w.heap.size+1)) (.inr ⟨hc1,rfl⟩) β' _ W sA) ?_;rintro e a1 Wa ⟨lx,env1,H1,β1,g1,s1,g2,g3⟩;cases lx with
  |exit id=>exact g2.elim
  |ret=>exact g2.elim
  |normal=>
  cases e<;>simp only[iB]at g1;obtain⟨β2,s2⟩:=g3 _ _ _ _ _ s1;obtain⟨m1,gA⟩:=m.unbase (hpin i) s2.mem;have gW1:=gg.trans gA;have keepA:∀k,K k\/(k<w.heap.size/\¬Ex X β H k)\/k=w.heap.size\/k=w.heap.size+1->¬Ex X β' (O i) k:=λk hk he=>by
   rcases he with he|⟨id,h1,h2⟩
   .have:=(s.xold.1 k he).1;rcases hk with hk|⟨_,hk⟩|hk|hk
    .have:=q4 k hk;omega
    .exact hk (.inl he)
    .omega
    .omega
   .have h3:=q3 id k (bR h1) h2;rcases hk with hk|⟨hk,hk'⟩|hk|hk
    .rcases h3 with h3|h3
     .have:=q4 k hk;omega
     .exact h3.1 hk
    .exact hk' (gg.sub k hk (.inr ⟨id,h1,h2⟩))
    .rcases h3 with h3|h3<;>omega
    .rcases h3 with h3|h3<;>omega
  have ltW:∀k,K k\/(k<w.heap.size/\¬Ex X β H k)\/k=w.heap.size\/k=w.heap.size+1->k<W.heap.size:=λk hk=>by
   rcases hk with hk|⟨hk,_⟩|hk|hk
   .exact(q4 k hk).2
   .omega
   .omega
   .omega
  have sameA:∀k,K k\/(k<w.heap.size/\¬Ex X β H k)\/k=w.heap.size\/k=w.heap.size+1->Wa.heap[k]? =W.heap[k]? :=λk hk=>gA.blk k (ltW k hk) (keepA k hk);have hLa:=(sameA _ (.inr (.inr (.inr rfl)))).trans q1;refine⟨_,run_beginRound hLa (by rw[hrec]),?_⟩;obtain⟨Wb,hWb⟩:∃Wb,Wa.putObj (w.heap.size+1) (.loop {rec .ready none with state:=.busy})=Wb:=⟨_,rfl⟩;have hszb:Wb.heap.size=Wa.heap.size:=by rw[<-hWb];simp
  have mb:dX w0 X (O1 i) β2 Wb:=by rw[<-hWb];exact m1.still _ hLa rfl aE
  have gb:fG X H β w (O1 i) β2 Wb:=by rw[<-hWb];exact gW1.still _ hLa rfl aE
  have sameB:∀k,k≠w.heap.size+1->Wb.heap[k]? =Wa.heap[k]? :=λk hk=>by rw[<-hWb];exact World.putObj_heap_other hk
  have hLb:Wb.heap[w.heap.size+1]? =some (.loop {rec .ready none with state:=.busy}):=by
   rw[<-hWb];exact World.putObj_heap_same (A0.1 hLa).1
  rw[hWb];have q3a:∀id b,(O1 i id).live=true->β2 id=some b->b<w.heap.size\/(¬K b/\w.heap.size+1<b):=λid b h1 h2=>by
   rcases(s2.fresh id b h1 h2).1 with h|⟨⟨j,_,h3,h4⟩,_⟩
   .have h:W.heap.size<=b:=h;exact .inr ⟨λhk=>by have:=q4 b hk;omega,aE⟩
   .exact q3 j b h3 h4
  have mB:=mb.rebase pins1 (hpin1 i);have sB:nD N ⟨Wb,β2,O1 i,pins1,true⟩ X (E1 i) (O1 i) β2 a1 Wb:=by
   refine⟨?_,s2.size,mB.ext,mB.xold,mB.fresh,mB.inj,λt=>?_,mB.obj,mB.pin⟩
   .obtain⟨Ds,d0,_,d2,_⟩:=s2.defers;rw[d0 rfl]at d2;rw[d2];exact HB.nil
   .rw[<-hWb];exact EF _ hLa rfl (s2.env t)
  refine wpIn_mono (hb ⟨Wb,β2,O1 i,pins1,true⟩ X i x rfl hx (some (w.heap.size+1)) (.inr ⟨hc2,rfl⟩) β2 a1 Wb sB) ?_;rintro e a2 Wc ⟨lx,env2,H2,β3,g1,s3,g2,g3⟩;cases lx with
  |exit id=>exact g2.elim
  |ret=>exact g2.elim
  |normal=>
  cases e<;>simp only[iB]at g1;obtain⟨β4,s4⟩:=g3 _ _ _ _ _ s3;obtain⟨mc,gC⟩:=mb.unbase (hpin1 i) s4.mem;have gc:=gb.trans gC;have keepB:∀k,K k\/(k<w.heap.size/\¬Ex X β H k)\/k=w.heap.size\/k=w.heap.size+1->¬Ex X β2 (O1 i) k:=λk hk he=>by
   rcases he with he|⟨id,h1,h2⟩
   .exact keepA k hk (.inl he)
   .have h3:=q3a id k (bR h1) h2;rcases hk with hk|⟨hk,hk'⟩|hk|hk
    .rcases h3 with h3|h3
     .have:=q4 k hk;omega
     .exact h3.1 hk
    .exact hk' (gb.sub k hk (.inr ⟨id,h1,h2⟩))
    .rcases h3 with h3|h3<;>omega
    .rcases h3 with h3|h3<;>omega
  have hAB:Wa.heap.size<=Wb.heap.size:=aE;have sameC:∀k,K k\/(k<w.heap.size/\¬Ex X β H k)\/k=w.heap.size\/k=w.heap.size+1->Wc.heap[k]? =Wb.heap[k]? :=λk hk=>gC.blk k (by have:=ltW k hk;have:=gA.size;omega) (keepB k hk);have hLc:=(sameC _ (.inr (.inr (.inr rfl)))).trans hLb;have hre:=run_endRound (P:=P) none hLc;refine⟨_,_,hre,rfl,?_⟩;obtain⟨Wd,hWd⟩:∃Wd,Wc.putObj (w.heap.size+1) (.loop {{rec .ready none with state:=.busy}with state:=if(none:Option Code).isNone then .ready else .done,pending:=none})=Wd:=⟨_,rfl⟩;have hszd:Wd.heap.size=Wc.heap.size:=by rw[<-hWd];simp
  have md:dX w0 X (O2 i) β4 Wd:=by rw[<-hWd];exact mc.still _ hLc rfl aE
  have gd:fG X H β w (O2 i) β4 Wd:=by rw[<-hWd];exact gc.still _ hLc rfl aE
  have CD:∀k,k≠w.heap.size+1->Wd.heap[k]? =Wc.heap[k]? :=λk hk=>by rw[<-hWd];exact World.putObj_heap_other hk
  have hLd:Wd.heap[w.heap.size+1]? =some (.loop (rec .ready none)):=by
   rw[<-hWd,World.putObj_heap_same (A0.1 hLc).1,hrec];rfl
  rw[hWd];have sz1:W.heap.size<=Wd.heap.size:=by have:=gA.size;have:=gC.size;omega
  have sameAll:∀k,K k\/(k<w.heap.size/\¬Ex X β H k)\/k=w.heap.size\/k=w.heap.size+1->Wd.heap[k]? =W.heap[k]? :=λk hk=>by
   by_cases e:k=w.heap.size+1
   .subst e;rw[hLd,q1]
   .rw[CD k e,sameC k hk,sameB k e,sameA k hk]
  obtain⟨β5,me,he5,hl5⟩:=md.forget pins hnd hw0;rw[<-hO2 i hi]at me he5 hl5;refine⟨?_,sz1,λk hk=>sameAll k (hk.imp (λh=>h) λh=>?_)⟩
  .rw[hJ];refine⟨β5,me,⟨gd.size,gd.blk,λk hk h=>?_,λid=>?_⟩,hLd,(sameAll _ (.inr (.inr (.inl rfl)))).trans q2,λid b h1 h2=>?_,λk hk=>⟨(q4 k hk).1,by have:=(q4 k hk).2;omega⟩⟩
   .rcases h with h|⟨id,h1,h2⟩
    .exact .inl h
    .obtain⟨e1,e2⟩:=he5 id (hl5 id (bR h1));refine gd.sub k hk (.inr ⟨id,?_,e1▸h2⟩);rw[e2,rH]at h1;exact h1
   .by_cases hab:H id=.absent
    .unfold bW;rw[hab];trivial
    .have hm:id∈pins:=hpin 0 id (by rw[hO];exact hab);obtain⟨e1,e2⟩:=he5 id hm;refine(gd.pass id).trans ?_;unfold bW;rw[e1,e2];cases q:O2 i id with
     |absent=>trivial
     |dead=>rfl
     |box fz cs=>exact .inr ⟨⟨_,_,rfl⟩,rfl⟩
     |row fz size xs=>exact .inr ⟨⟨_,_,rfl,A4 _⟩,rfl,λb cur e _ hc=>⟨cur,e,hc,rfl⟩⟩
     |map fz ks vs=>exact .inr ⟨⟨_,_,_,rfl⟩,rfl⟩
     |iter fz ks vs=>exact .inr ⟨⟨_,_,_,rfl⟩,rfl⟩
     |know x v=>trivial
   .obtain⟨e1,e2⟩:=he5 id (hl5 id h1);rw[e2,fN]at h1;rw[e1]at h2;rcases(s4.fresh id b h1 h2).1 with h|⟨⟨j,_,h3,h4⟩,_⟩
    .have h:Wb.heap.size<=b:=h;have:=gA.size;exact .inr ⟨λhk=>by have:=q4 b hk;omega,aE⟩
    .exact q3a j b h3 h4
  .by_cases h1:k=w.heap.size
   .exact .inr (.inl h1)
   .by_cases h2:k=w.heap.size+1
    .exact .inr (.inr h2)
    .exact .inl ⟨aE,h.2⟩
 .rintro e W2 ⟨⟨v,rfl⟩,K,hj⟩;rw[hJ]at hj;obtain⟨β',m,gg,q1,q2,q3,q4⟩:=hj;refine⟨none,_,by have:=run_endLoop (P:=P) q1 (by rw[hrec];simp);rw[hrec]at this;exact this,?_⟩;have hl0:w0.w.heap.size<=w.heap.size:=s.ext.size;obtain⟨W3,hW3⟩:∃W3,W2.putObj (w.heap.size+1) (.loop {rec .ready none with state:=.exhausted})=W3:=⟨_,rfl⟩;have m3:dX w0 X (O items.length) β' W3:=by rw[<-hW3];exact m.still _ q1 rfl aE
  have g3:fG X H β w (O items.length) β' W3:=by rw[<-hW3];exact gg.still _ q1 rfl aE
  have hD3:W3.heap[w.heap.size]? =some (.deferred (some [])):=by rw[<-hW3];exact(World.putObj_heap_other aE).trans q2
  rw[hrec]at hW3;simp only at hW3|-;rw[hW3];refine⟨.normal,env,_,β',trivial,⟨?_,s.size,m3.ext,m3.xold,m3.fresh,m3.inj,λt=>g3.R (s.env t),m3.obj,m3.pin⟩,hq⟩;obtain⟨Ds,_,d1,d2,d3⟩:=g3.marks s.defers;obtain⟨Ds',_,d1',d2',d3'⟩:=s.defers;have hDs:∀D∈Ds,D<w.heap.size:=λD hD=>by
   have e:Ds=Ds':=TW (d2.symm.trans d2');subst e;exact(A0.1 (d3' D hD).2.2).1
  refine⟨w.heap.size::Ds,λh=>(by rw[hfl]at h;cases h),H0.2 ⟨λh=>by have:=hDs _ h;omega,d1⟩,by rw[F5,<-d2];rfl,λD hD=>?_⟩;rcases J6.1 hD with rfl|hD
  .refine⟨hl0,λhe=>?_,hD3⟩;rcases he with he|⟨id,h1,h2⟩
   .have:=(s.xold.1 _ he).1;omega
   .have h3:=q3 id _ (bR h1) h2;rcases h3 with h3|h3<;>omega
  .exact d3 D hD
end
end
section
open Go.RowKit
section
variable{P:Program} {ops:Array Oper} {Q:Exit->Act->World->Prop}
theorem Xz{o:Oper}{a:Act}{w:World}{K k:Act->World->Prop}{Q l:Exit->Act->World->Prop}(r:Option Nat)(m:oQ o=true)(b:∀a w,K a w->k a w)(j:∀e a w,Q e a w->e=.normal\/l e a w)(h:o.wp P a w K Q):o.wpIn (RF r) 0 P a w k l:=by
 refine⟨λ_ _=>trivial,?_⟩;rw[Oper.semAt_eq _ _ _ (λc e=>by simp[oQ,e]at m)];unfold Oper.wp at h;revert h;cases(execOp a.eval o).run P w with
 |ok x g=>
  cases x with
  |value v=>exact b _ _
  |skip=>exact b _ _
  |defer d=>exact b _ _
  |enter f args=>exact λh=>⟨λh=>(by cases h),callsIn_wide.2 ((h:Calls P f args g _).mono λe g i=>by
    cases e
    .exact b _ _ i
    .exact(j _ _ _ i).resolve_left bC
    .obtain⟨a,w,q⟩:=i;exact⟨a,w,(j _ _ _ q).resolve_left bC⟩)⟩
  |row row args=>exact λh=>⟨λh=>(by cases h),(HP (h:Rows P row args g _)).mono λv g=>b _ _⟩
  |_=>exact λh=>h.elim
 |halt x g=>cases x<;>first|exact λh=>(j _ _ _ h).resolve_left bC|exact λh=>h.elim
theorem AY{K:Act->World->Prop}{rest:List Oper}(f:∀a w,K a w->wpListIn (RF none) 0 P ops Q rest a w):∀(b:List Oper) (a:Act) (w:World),(∀o∈b,oQ o=true)->wpList P ops (λe a w=>e=.normal/\K a w) b a w->wpListIn (RF none) 0 P ops Q (b++rest) a w
 |[],_,_,_,h=>f _ _ h.2
 |o::b,a,w,hd,h=>by
  have g:=AY f b;have c:∀o∈b,oQ o=true:=λo j=>hd o (D7 _ j);rw[List.cons_append];unfold wpList at h;unfold wpListIn;split
  .rename_i d;rw[if_pos d]at h;rcases h with h|⟨_,k,l,i,_⟩
   .exact Xz none (hd o (J7 ..)) (λa w=>g a w c) (λe a w q=>.inl q.1) h
   .cases i
  .rename_i d;rw[if_neg d]at h;exact⟨λ_ _=>trivial,g _ _ c h⟩
end
section
variable{N:Nat} {w0:dH} {X:Nat->Prop} {env:eO} {H:dQ} {β:Nat->Option Nat} {a:Act} {w w':World}
theorem nD.effect{X':Nat->Prop}(s:nD N w0 X env H β a w)(pins:List Nat)(hp:∀id,H id≠ .absent->id∈pins)(n:a.defers=[])(L:w.heap.size<=w'.heap.size)
 (Y:∀k,k<w.heap.size->¬X k->w'.heap[k]? =w.heap[k]?)(S:∀k,k<w.heap.size->X' k->X k)(U:∀k,X' k->k<w'.heap.size)(hG:AS w' X'):nD N ⟨w',β,H,pins,true⟩ X' env H β a w':=by
 have hl:∀{id},(H id).live=true->id∈pins:=λ{id} h=>hp id λe=>by rw[e]at h;cases h
 have p:∀id b,(H id).live=true->β id=some b->¬X b/\b<w.heap.size:=λid b f g=>⟨λE=>by
  have P:=s.xold.1 b E;rcases(s.fresh id b f g).1 with h|h
  .omega
  .exact P.2 h.1,(s.fresh id b f g).2⟩
 have j:∀id b,(H id).live=true->β id=some b->w'.heap[b]? =w.heap[b]? :=λid b f g=>Y b (p id b f g).2 (p id b f g).1;have F:∀k,k<w.heap.size->¬Ex X β H k->w'.heap[k]? =w.heap[k]? :=λk f g=>Y k f λh=>g (.inl h);have J:∀k,k<w.heap.size->Ex X' β H k->Ex X β H k:=λk f g=>g.imp (S k f) λh=>h;have D:∀{d:DV} {v:Value},RD w (Ex X β H) d v->RD w' (Ex X' β H) d v:=λh=>h.step F L J;have hP:∀id,bW w β H w' β H id:=λid=>by
  unfold bW;cases q:H id with
  |absent=>trivial
  |dead=>rfl
  |box fz cs=>exact .inr ⟨⟨_,_,rfl⟩,rfl⟩
  |row fz size xs=>exact .inr ⟨⟨_,_,rfl,A4 _⟩,rfl,λb z e hb V=>⟨z,e,(j id b (by rw[q];rfl) hb).trans V,rfl⟩⟩
  |map fz ks vs=>exact .inr ⟨⟨_,_,_,rfl⟩,rfl⟩
  |iter fz ks vs=>exact .inr ⟨⟨_,_,_,rfl⟩,rfl⟩
  |know x v=>trivial
 have Q:∀{l:LV} {v:Value},Eng.R w (Ex X β H) β H l v->Eng.R w' (Ex X' β H) β H l v:=λh=>h.step (λ_ _=>D) hP;have Z:∀k,X' k->¬dH.mine ⟨w',β,H,pins,true⟩ k:=λk E ⟨id,_,f,g⟩=>(p id k f g).1 (S k (p id k f g).2 E);have W:=s.mem.globL;refine⟨by rw[n];exact HB.nil,s.size,⟨rfl,rfl,rfl,A4 _,λ_ _ _=>rfl,A4 _⟩,⟨λk E=>⟨U k E,Z k E⟩,?_⟩,λid b f g=>⟨.inr ⟨⟨id,hl f,f,g⟩,λhm=>⟨id,hl f,hm,g⟩⟩,?_⟩,s.inj,λt=>Q (s.env t),λid=>?_,λid _=>bW.refl id⟩
 .refine W.step (λk f g=>Y k f λh=>g (.inl h)) L λk f g=>g.imp (S k f) ?_;rintro⟨id,_,P,h4⟩;exact⟨id,P,h4⟩
 .exact B8 (p id b f g).2 L
 .have o:=s.obj id;unfold dT at o|-;cases q:H id with
  |absent=>trivial
  |dead=>trivial
  |box fz cs=>
   rw[q]at o;obtain⟨b,e,us,r,B,u,C,K⟩:=o;exact⟨b,e,us,r,(j id b (by rw[q];rfl) r).trans B,u,C,λi c v V M=>Q (K i c v V M)⟩
  |row fz size xs=>
   rw[q]at o;obtain⟨r,B,u⟩:=o;refine⟨r,B,u.imp (λh=>h) ?_⟩;rintro⟨b,e,z,y1,y2,y3,y4⟩;exact⟨b,e,z,y1,(j id b (by rw[q];rfl) y1).trans y2,y3,λi d v n M=>⟨(y4 i d v n M).1,D (y4 i d v n M).2⟩⟩
  |map fz ks vs=>
   rw[q]at o;obtain⟨b,y,m,r,B,u,C,K,z6,z7⟩:=o;exact⟨b,y,m,r,(j id b (by rw[q];rfl) r).trans B,u,C,K,λi d e n A=>D (z6 i d e n A),λi d e n A=>D (z7 i d e n A)⟩
  |iter fz ks vs=>
   rw[q]at o;obtain⟨b,O,y,m,I,G,r,B,u,C,K,z6,z7,z8,z9,a0,a1⟩:=o;exact⟨b,O,y,m,I,G,r,(j id b (by rw[q];rfl) r).trans B,λh=>u (J O C h),B8 C L,(F O C u).trans K,z6,z7,z8,z9,λi d e n A=>D (a0 i d e n A),λi d e n A=>D (a1 i d e n A)⟩
  |know x v=>
   rw[q]at o;exact Q o
end
structure Se(P:Program) where
 T:(Nat->Prop)->Nat->World->Prop
 S:Nat->Prop
 grow:∀K i W W',T K i W->Bz W.heap.size W W'->T (λk=>K k\/W.heap.size<=k/\k<W'.heap.size) i W'
 low:∀K i W k,T K i W->K k->k<W.heap.size
 same:∀K i W K' i' W' k,T K i W->T K' i' W'->S k->W'.heap[k]? =W.heap[k]?
 glob:∀K i W,T K i W->AS W λk=>k<W.heap.size/\¬(K k\/S k)
def Se.X{P:Program}(F:Se P)(K:Nat->Prop)(W:World)(k:Nat):Prop:=k<W.heap.size/\¬(K k\/F.S k)
def EN{P:Program}(F:Se P)(K:Nat->Prop)(i n:Nat)(r:Value)(W:World)(e:Ending)(W':World):Prop:=
 e=.returned r/\∃K',F.T K' (i+n) W'/\W.heap.size<=W'.heap.size/\∀k,K k->K' k/\W'.heap[k]? =W.heap[k]?
def qI{P:Program}(F:Se P)(u:DV)(args:List DV)(i n:Nat)(r:Value):Prop:=
 ∀K W v vs,F.T K i W->RD W (F.X K W) u v->Oa W (F.X K W) args vs->
  (∃f lb,v=.func (.func f) #[] lb/\rE P f/\Calls P f (vs.toArray++lb) W (EN F K i n r W))\/
  (∃l,v=.func (.yield l) #[] #[]/\YieldAt Fence.wide 0 P l vs.toArray W (EN F K i n r W))
def DP{P:Program}(F:Se P)(N:Nat)(pins:List Nat)(Q:LX->eO->dQ->Nat->Prop)(K:Nat->Prop)(W:World)(e:Exit)(a':Act)(w':World):Prop:=
 ∃x env' H' i' w1 K' β',iB e x/\w1.flat=true/\w1.pins=pins/\(∀k,¬w1.own k)/\F.T K' i' w1.w/\(∀k,K k->K' k/\w1.w.heap[k]? =W.heap[k]?)/\W.heap.size<=w1.w.heap.size/\nD N w1 (F.X K' w1.w) env' H' β' a' w'/\Q x env' H' i'
def Hl{P:Program}(F:Se P)(N:Nat)(pins:List Nat)(c:Code)(Q:LX->eO->dQ->Nat->Prop)(env:eO)(H:dQ)(i:Nat):Prop:=
 oB c=true->∀w0 K β a w,w0.flat=true->w0.pins=pins->(∀k,¬w0.own k)->F.T K i w0.w->nD N w0 (F.X K w0.w) env H β a w->c.wpIn (RF none) 0 P (DP F N pins Q K w0.w) a w
def iC(Kn:eO->dQ->Nat->Prop)(Q:LX->eO->dQ->Nat->Prop):LX->eO->dQ->Nat->Prop
 | .normal,env,H,i=>Kn env H i
 |e,env,H,i=>Q e env H i
def EO(id:Nat)(Q:LX->eO->dQ->Nat->Prop):LX->eO->dQ->Nat->Prop
 | .exit j,env,H,i=>if j=id then Q .normal env H i else Q (.exit j) env H i
 |e,env,H,i=>Q e env H i
section
variable{P:Program} {T:TypeId->cX} {F:Se P} {N:Nat} {pins:List Nat} {Q Q':LX->eO->dQ->Nat->Prop} {env:eO} {H:dQ} {i:Nat}
theorem DP.mono{K:Nat->Prop}{W:World}{e:Exit}{a:Act}{w:World}(h:DP F N pins Q K W e a w)(q:∀x env H i,Q x env H i->Q' x env H i):DP F N pins Q' K W e a w:=
 let⟨x,b,c,r,s,d,t,f,g,j,k,l,m,n,o,p⟩:=h
 ⟨x,b,c,r,s,d,t,f,g,j,k,l,m,n,o,q _ _ _ _ p⟩
theorem DP.later{K d:Nat->Prop}{W c:World}{e:Exit}{a:Act}{w:World}(h:DP F N pins Q d c e a w)(u:∀k,K k->d k/\c.heap[k]? =W.heap[k]?)(v:W.heap.size<=c.heap.size):DP F N pins Q K W e a w:=
 let⟨x,b,g,y,z,i,A,j,l,m,n,o,f,p,r,s⟩:=h
 ⟨x,b,g,y,z,i,A,j,l,m,n,o,λk t=>let q:=u k t;⟨(f k q.1).1,(f k q.1).2.trans q.2⟩,C6 v p,r,s⟩
theorem FP{c:Code}(h:∀d X,d.pins=pins->fL P N d X c (λx env H=>Q x env H i) env H):Hl F N pins c Q env H i:=
 λm d K β a w e f j l s=>wpIn_mono (h d _ f none (.inr ⟨m,e⟩) β a w s) λ_ _ _ ⟨x,b,g,o,q1,q2,q3⟩=>
  ⟨x,b,g,i,d,K,o,q1,e,f,j,l,λk n=>⟨n,rfl⟩,A4 _,q2,q3⟩
theorem xZ{c:Code}{b:eO}{e:dQ}(m:∀d:dH,d.pins=pins->jD d env H b e)(h:Hl F N pins c Q b e i):Hl F N pins c Q env H i:=
 λl d K β a w g f j k s=>let⟨o,n⟩:=m d f _ _ _ _ _ s;h l d K o a w g f j k n
theorem Hl.skip(h:Q .normal env H i):Hl F N pins .skip Q env H i:=FP λ_ _ _=>fL.skip h
theorem Hl.ret(h:Q .ret env H i):Hl F N pins .ret Q env H i:=FP λ_ _ _=>fL.ret h
theorem Hl.exit{id:Nat}(h:Q (.exit id) env H i):Hl F N pins (.exit id) Q env H i:=FP λ_ _ _=>fL.exit h
theorem Hl.seq{x y:Code}(h:Hl F N pins x (iC (Hl F N pins y Q) Q) env H i):Hl F N pins (.seq x y) Q env H i:=by
 intro d C K β a w u v z A s;simp only[oB,G7]at d;refine wpIn_seq (wpIn_mono (h d.1 C K β a w u v z A s) ?_);rintro e t w' ⟨B,b,p,r,n,c,o,q1,q2,q3,f,g,j,k,l,m⟩;cases e<;>cases B<;>simp only[iB]at q1
 .exact wpIn_mono (m d.2 n c o t w' q2 q3 f g l) λ_ _ _ q=>q.later j k
 .subst q1;exact⟨.exit _,b,p,r,n,c,o,rfl,q2,q3,f,g,j,k,l,m⟩
 .exact⟨.ret,b,p,r,n,c,o,trivial,q2,q3,f,g,j,k,l,m⟩
theorem Hl.block{id:Nat}{c:Code}(h:Hl F N pins c (EO id Q) env H i):Hl F N pins (.block id c) Q env H i:=by
 intro t A K β a w u v x y s;simp only[oB]at t;refine wpIn_block (wpIn_mono (h t A K β a w u v x y s) ?_);rintro e B w' ⟨z,b,f,j,p,g,q,q1,q2,q3,k,l,m,n,o,d⟩;cases e<;>cases z<;>simp only[iB]at q1
 .exact⟨.normal,b,f,j,p,g,q,trivial,q2,q3,k,l,m,n,o,d⟩
 .subst q1;simp only[Exit.inBlock,EO]at d|-;split at d
  .rename_i r;rw[if_pos r];exact⟨.normal,b,f,j,p,g,q,trivial,q2,q3,k,l,m,n,o,d⟩
  .rename_i r;rw[if_neg r];exact⟨.exit _,b,f,j,p,g,q,rfl,q2,q3,k,l,m,n,o,d⟩
 .exact⟨.ret,b,f,j,p,g,q,trivial,q2,q3,k,l,m,n,o,d⟩
theorem Hl.cond{c:Operand}{x y:Code}{b:Bool}(n:lC env c=.d (.bool b))(l:b=true->Hl F N pins x Q env H i)(m:b=false->Hl F N pins y Q env H i):Hl F N pins (.cond c x y) Q env H i:=by
 intro d k K β a w e f g h s;simp only[oB,G7]at d;have j:=s.get c;rw[n]at j;refine wpIn_cond j.bool ?_;cases b
 .exact m rfl d.2 k K β a w e f g h s
 .exact l rfl d.1 k K β a w e f g h s
theorem Hl.loop{c:Code}{ι:Type}(E:ι->eO)(O:ι->dQ)(v:ι->Nat)(I:ι->Prop)(μ:ι->Nat)(j:ι)(Y:∀d:dH,d.pins=pins->jD d env H (E j) (O j))(Z:v j=i)(W:I j)
 (l:∀j,I j->Hl F N pins c (iC (λb r u=>∃p,(∀d:dH,d.pins=pins->jD d b r (E p) (O p))/\u=v p/\I p/\μ p<μ j) Q) (E j) (O j) (v j)):Hl F N pins (.loop c) Q env H i:=by
 refine xZ Y ?_;subst Z;intro C d K β a w P S U V s;simp only[oB]at C;refine xP (λn a w=>∃j f m β,μ j=n/\I j/\f.flat=true/\f.pins=pins/\(∀k,¬f.own k)/\F.T m (v j) f.w/\nD N f (F.X m f.w) (E j) (O j) β a w/\(∀k,K k->m k/\f.w.heap[k]? =d.w.heap[k]?)/\d.w.heap.size<=f.w.heap.size) (μ j)
  ⟨j,d,K,β,rfl,W,P,S,U,V,s,λk x=>⟨x,rfl⟩,A4 _⟩ ?_
 rintro n L f ⟨j1,M,m,β1,rfl,X,t1,t2,t3,t4,s1,t5,t6⟩;refine wpIn_mono (l j1 X C M m β1 L f t1 t2 t3 t4 s1) ?_;rintro e a2 w2 ⟨lx,b,r,u,o,t,J,q1,q2,q3,y,z,G,q7,A,B⟩;have g:∀k,K k->t k/\o.w.heap[k]? =d.w.heap[k]? :=λk x=>let q:=t5 k x;⟨(G k q.1).1,(G k q.1).2.trans q.2⟩;have h:=C6 t6 q7;cases e<;>cases lx<;>simp only[iB]at q1
 .obtain⟨D,r1,r2,r3,r4⟩:=B;obtain⟨β3,s3⟩:=r1 o q3 _ _ _ _ _ A;exact⟨μ D,r4,D,o,t,β3,rfl,r3,q2,q3,y,by rw[<-r2];exact z,s3,g,h⟩
 .subst q1;exact⟨.exit _,b,r,u,o,t,J,rfl,q2,q3,y,z,g,h,A,B⟩
 .exact⟨.ret,b,r,u,o,t,J,trivial,q2,q3,y,z,g,h,A,B⟩
theorem Hl.len{c:Code}{t:Nat}{f:List DV}(o:env t=.d (.sl f))(h:f.length<=9223372036854775807->Hl F N pins c Q env H i):Hl F N pins c Q env H i:=by
 intro n p K β a w g j k l s;have e:=s.env t;rw[o]at e;cases e with
 |d _ _ e=>
  obtain⟨b,q,_,r,m⟩:=e.sl_len;exact h (by unfold maxLen at m;omega) n p K β a w g j k l s
theorem kP(hT:gI P T)(hW:DI T){id:Nat}{l:List Oper}(a:Nat->Option kK)(h:(fM P T N l a env H).ok/\Q .normal (fM P T N l a env H).env (fM P T N l a env H).H i)
 (b:∀d,vF (a d):=by intro d;first|exact CT ⟨rfl,λ_ h=>h⟩|exact⟨rfl,λ_ h=>h⟩|(split<;>exact⟨rfl,λ_ h=>h⟩)):Hl F N pins (.region id l.toArray false) Q env H i:=FP λ_ _ _=>vG hT hW a b h
theorem nD.nodefer{b:dH}{X:Nat->Prop}{β:Nat->Option Nat}{a:Act}{w:World}(s:nD N b X env H β a w)(h:b.flat=true):a.defers=[]:=by
 obtain⟨e,c,_,d,_⟩:=s.defers;rw[d,c h];rfl
theorem Wh.bel{a:dH}{w:World}(h:Wh a w)(c:∀k,¬a.own k):Bz a.w.heap.size a.w w:=⟨h.os,h.tape,h.output,h.size,λk b=>h.block k b (c k),h.drawn⟩
theorem lL{f:FuncId}{fn:Func}{c:Code}{g a:List DV}{n m t:Nat}{r:Value}{d:DV}(Z:P.funcs[f]? =some fn)(y:(fn.name== "runtime.NumGoroutine")=false)(Y:fn.body=some c)(hn:fn.ntmps=n)(u:(a++g).length<=n)(D:fn.results= #[.tmp t])
 (hr:∀w E v,RD w E d v->v=r)(hc:oB c=true)(h:Hl F n pins c (λx env _ i'=>(match x with| .exit _=>False|_=>True)/\i'=i+m/\env t=.d d) (iQ (a++g)) (aL []) i):qI F (.fn f g) a i m r:=by
 intro K W v z G M J;cases M with
 |fn _ _ us hl hu=>
 refine .inl ⟨f,us.toArray,rfl,⟨fn,Z,y,by rw[Y];rfl⟩,?_⟩;have B:(z.toArray++us.toArray)=(z++us).toArray:=bC;rw[B];have I:=J.1;have s0:nD n ⟨W,λ_=>none,λ_=>.absent,pins,true⟩ (F.X K W) (iQ (a++g)) (aL []) (λ_=>none) ⟨(z++us).toArray++K9 (fn.ntmps-(z++us).toArray.size) undef,[]⟩ W:=by
  refine⟨HB.nil,?_,⟨rfl,rfl,rfl,A4 _,λ_ _ _=>rfl,A4 _⟩,⟨λk o=>⟨o.1,λ⟨id,_,s,_⟩=>by cases s⟩,(F.glob K i W G).anti λk o=>o.resolve_right λ⟨id,_,s,_⟩=>by cases s⟩,λid b hl _=>by simp[aL,fU,bI.live]at hl,λi j b hi _=>by simp[aL,fU,bI.live]at hi,λt=>?_,λid=>?_,λid _=>?_⟩
  .simp at u|-;omega
  .rw[sO];cases q:(a++g)[t]? with
   |none=>exact .junk _
   |some x=>
    have C:(z++us).length=(a++g).length:=(by simp[I,hl]);have H:t<(z++us).length:=by rw[C];exact(A8.1 q).1
    have O:∀(L:List Value) (h:t<L.length),(L.toArray++K9 (fn.ntmps-L.toArray.size) undef).getD t undef=L[t]:=λL h=>by
     simp[C7,H5,h]
    simp only[O _ H];refine .d _ _ (RD.anti (E:=F.X K W) (λk o=>?_) ?_)
    .rcases o with o|⟨id,s,_⟩
     .exact o
     .simp[aL,fU,bI.mut]at s
    .have p:=A5 H;by_cases G:t<a.length
     .rw[B3 G]at q;rw[B3 aE]at p;exact J.2 t x _ q p
     .rw[B2 aE]at q;rw[B2 aE,I]at p;exact hu _ x _ q p
  .simp[dT,aL,fU]
  .simp[bW]
 refine(callsIn_wide (n:=0)).1 (callsIn_of_wp Z Y trivial (wpIn_mono (h hc _ K _ _ _ rfl rfl (λk ⟨id,_,s,_⟩=>by cases s) G s0) ?_) rfl);rintro e V w' ⟨x,X,H',i',w1,K',β',q1,q2,q3,q4,q5,q6,q7,U,q9,Q,S⟩;subst Q;have l:=U.ext.bel q4;have M:=U.env t;rw[S]at M;have N:V.tmps.getD t undef=r:=by cases M with|d _ _ h=>exact hr _ _ _ h
 have A:bodyPost P fn (EN F K i m r W) .ret V w':=by
  refine⟨U.nodefer q2,r,by rw[results_tmp D,N],rfl,_,F.grow K' _ _ _ q5 l,C6 q7 l.size,λk o=>⟨.inl (q6 k o).1,?_⟩⟩;exact(l.block k (B8 (F.low K i W k G o) q7)).trans (q6 k o).2
 cases e<;>cases x<;>simp only[iB]at q1
 .exact A
 .exact q9.elim
 .exact A
theorem aAY(hT:gI P T)(hW:DI T){id:Nat}{pre post:List Oper}{o:Oper}{dst:Nat}{callee:Operand}{args:Array Operand}{ts:Array TypeId}(V:Nat->Option kK)(B:∀d,vF (V d))
 (ho:o.op=.call {callee:=.value callee,args:=args,argTypes:=ts})(hd:o.dst=some dst)(hg:o.guard=none)(hN:dst<N){n:Nat}{rd u:DV}{r:Value}{az:List DV}(b3:∀w E,RD w E rd r){s1 s2:wQ}
 (a3:pre.foldl (fP P T N (cT N (pre++o::post)) V) ⟨env,H,True⟩=s1)(I:s1.ok)(hm:∀id,(s1.H id).mut=false)(hp:∀id,s1.H id≠ .absent->id∈pins)
 (hu:close s1.H 8 (lC s1.env callee)=some u)(a8:cS (args.toList.map λx=>close s1.H 8 (lC s1.env x))=some az)(L:qI F u az i n r)
 (a4:post.foldl (fP P T N (cT N (pre++o::post)) V) ⟨cK s1.env dst (.d rd),s1.H,True⟩=s2)(h2:s2.ok)(hq:Q .normal s2.env s2.H (i+n)):Hl F N pins (.region id (pre++o::post).toArray false) Q env H i:=by
 intro hc y K β a w f1 f2 f3 ht s;have a2:∀Y∈pre++o::post,oQ Y=true:=by
  simp only[oB]at hc;rw[Array.all_eq_true]at hc;intro Y b2;obtain⟨j,hj,rfl⟩:=E0 b2;have:=hc j (by simpa using hj);simpa using this
 refine wpIn_region_list ?_;show wpListIn _ _ _ _ _ (pre++o::post) _ _;refine AY (K:=λp g=>∃Z,nD N y (F.X K y.w) s1.env s1.H Z p g) ?_ pre a w (λY h=>a2 Y (List.mem_append_left _ h)) (rJ hT hW (oC N _) pre ⟨env,H,True⟩ β a w (λo _=>B _) s (by rw[a3];exact I) λa' w' β' s'=>⟨rfl,β',by rw[a3]at s';exact s'⟩);rintro p g ⟨Z,W⟩;have G:=W.ext.bel f3;have U:=F.grow K i y.w g ht G;obtain⟨D,m⟩:∃D:Nat->Prop,D=λk=>K k\/y.w.heap.size<=k/\k<g.heap.size:=⟨_,rfl⟩;rw[<-m]at U;have a7:∀k,F.X D g k->Ex (F.X K y.w) Z s1.H k:=λk A=>by
  refine .inl ⟨?_,λh=>A.2 ?_⟩
  .refine K1 λh=>A.2 (.inl ?_);rw[m];exact .inr ⟨h,A.1⟩
  .rcases h with h|h
   .left;rw[m];exact .inl h
   .exact .inr h
 have a0:∀{c:LV} {d:DV} {v:Value},close s1.H 8 c=some d->Eng.R g (Ex (F.X K y.w) Z s1.H) Z s1.H c v->RD g (F.X D g) d v:=λ{c d v} hcl hr=>
  (oY W.mem.obj (λ_ _ h=>h) 8 c d v hcl (λid hid b hb=>Xw W.mem (nY 8 c d hcl id hid) (hm id) hb) hr).anti a7
 have b0:=a0 hu (W.get callee);have J:Oa g (F.X D g) az (args.toList.map p.eval):=by
  obtain⟨e1,e2⟩:=jS a8;refine⟨by simpa using e1.symm,λj c v hc hv=>?_⟩;obtain⟨x,X,rfl⟩:=eT hv;exact a0 (e2 j x c X hc) (W.get x)
 have C:∀v z,EN F D i n r g (.returned v) z->wpListIn (RF none) 0 P (pre++o::post).toArray (DP F N pins Q K y.w) post (p.put o.dst v) z:=by
  rintro v z ⟨e,K2,t1,t2,t3⟩;injection e with e;subst e
  have a5:∀k,k<g.heap.size->¬F.X K y.w k->z.heap[k]? =g.heap[k]? :=λk A hn=>by
   by_cases h0:k<y.w.heap.size
   .have:K k\/F.S k:=L6 λh=>hn ⟨h0,h⟩;rcases this with h|h
    .exact(t3 k (by rw[m];exact .inl h)).2
    .exact F.same _ _ _ _ _ _ k U t1 h
   .exact(t3 k (by rw[m];exact .inr ⟨aE,A⟩)).2
  have sb:=W.effect (X':=F.X K2 z) pins hp (W.nodefer f1) t2 a5 (λk A X=>⟨K1 λh=>X.2 (.inl (t3 k (by rw[m];exact .inr ⟨h,A⟩)).1),λh=>X.2 (by
   rcases h with h|h
   .exact .inl (t3 k (by rw[m];exact .inl h)).1
   .exact .inr h)⟩) (λk X=>X.1) (F.glob _ _ _ t1)
  have sc:=sb.put sb.mem fG.refl (.d rd v (b3 _ _)) (dst:=o.dst) (by rw[hd];exact hN);rw[hd]at sc|-;have:=AY (P:=P) (ops:=(pre++o::post).toArray) (Q:=DP F N pins Q K y.w) (rest:=[]) (K:=λa w=>DP F N pins Q K y.w .normal a w) (λ_ _ h=>h) post _ z (λY h=>a2 Y (List.mem_append_right _ (D7 _ h)))
   (rJ hT hW (oC N (pre++o::post)) post ⟨cK s1.env dst (.d rd),s1.H,True⟩ Z _ z (λo _=>B _) sc (by rw[a4];exact h2) λa' w' β' s'=>by
     rw[a4]at s';refine⟨rfl,.normal,s2.env,s2.H,i+n,_,K2,β',trivial,rfl,rfl,?_,t1,λk A=>?_,C6 G.size t2,s',hq⟩
     .rintro k ⟨id,_,I,_⟩;rw[hm id]at I;cases I
     .have I:=t3 k (by rw[m];exact .inl A);exact⟨I.1,I.2.trans (G.block k (F.low K i _ k ht A))⟩)
  rwa[L0]at this
 unfold wpListIn;rw[if_pos (by simp[Region.wanted,hg])];refine⟨λ_ _=>trivial,?_⟩;rw[Oper.semAt_eq _ _ _ (λc e=>by rw[ho]at e;cases e)];rcases L D g _ _ U b0 J with⟨f,lb,O,⟨fn,b1,S,a9⟩,hC⟩|⟨l,O,fn,tm,a6,bo,hy,hR⟩
 .have hb:fn.body.isNone=false:=by cases q:fn.body<;>simp_all
  have t:(execOp p.eval o).run P g=.ok (.enter f ((args.toList.map p.eval).toArray++lb)) g:=by
   have e1: #[]++args.map p.eval++lb=(args.toList.map p.eval).toArray++lb:=by
    congr 1;apply L9;simp
   simp only[execOp,ho,resolve,O,Deferred.ofValue,Sem.run_bind,Sem.run_pure,Result.andThen_ok,invoke,callFunc,run_program,b1,S,H4,if_false,hb];rw[e1]
  rw[t];refine⟨λh=>(by cases h),callsIn_wide.2 (hC.mono λe z M=>?_)⟩;cases e with
  |returned v=>exact C v z M
  |panicked ch=>exact absurd M.1 bC
  |outgrown=>exact absurd M.1 bC
 .have t:(execOp p.eval o).run P g=.ok (.round l fn tm a6 bo) g:=by
   have e1: #[]++args.map p.eval=(args.toList.map p.eval).toArray:=by
    apply L9;simp
   simp only[execOp,ho,resolve,O,Deferred.ofValue,Sem.run_bind,Sem.run_pure,Result.andThen_ok,invoke];rw[e1];exact hy
  rw[t];refine⟨λh=>(by cases h),hR.mono λe z M=>?_⟩;cases e with
  |returned v=>exact C v z M
  |panicked ch=>exact absurd M.1 bC
  |outgrown=>exact absurd M.1 bC
def AZ(P:Program)(T:TypeId->cX)(N:Nat)(l l':List Oper)(orc:Nat->Option kK)(env:eO)(H:dQ):wQ:=l'.foldl (fP P T N (cT N l) orc) ⟨env,H,True⟩
theorem CQ{l:List (Nat×bI)}(h:l.all (λp=> !p.2.mut)=true)(id:Nat):(aL l id).mut=false:=by
 unfold aL;induction l with
 |nil=>rfl
 |cons p r ih=>
  simp only[List.all_cons,G7,Bool.not_eq_true']at h;unfold fU;split
  .exact h.1
  .exact ih h.2
theorem pA{l:List (Nat×bI)}(id:Nat)(h:aL l id≠ .absent):id∈l.map (·.1):=by
 unfold aL at h;induction l with
 |nil=>exact absurd rfl h
 |cons p r ih=>
  unfold fU at h;split at h
  .rename_i e;simp[e]
  .exact D7 _ (ih h)
theorem oD(hT:gI P T)(hW:DI T){id:Nat}{l:List Oper}{o:Oper}{b:Nat}{callee:Operand}{args:Array Operand}{L:Array TypeId}(a:List (Nat×bI))(C:H=aL a)(g:a.all (λp=> !p.2.mut)=true)(j:∀x∈a.map (·.1),x∈pins)
 (k:Nat)(t:l[k]? =some o)(K:o.op=.call {callee:=.value callee,args:=args,argTypes:=L})(G:o.dst=some b)(J:o.guard=none)(D:b<N){n:Nat}{rd u:DV}{r:Value}{s:List DV}(m:∀w E,RD w E rd r)(c:qI F u s i n r)
 (h:((AZ P T N l (l.take k) (λ_=>none) env (aL a)).ok/\(AZ P T N l (l.take k) (λ_=>none) env (aL a)).H=aL a/\close (aL a) 8 (lC (AZ P T N l (l.take k) (λ_=>none) env (aL a)).env callee)=some u/\
    cS (args.toList.map λx=>close (aL a) 8 (lC (AZ P T N l (l.take k) (λ_=>none) env (aL a)).env x))=some s)/\
   (AZ P T N l (l.drop (k+1)) (λ_=>none) (cK (AZ P T N l (l.take k) (λ_=>none) env (aL a)).env b (.d rd)) (aL a)).ok/\
   Q .normal (AZ P T N l (l.drop (k+1)) (λ_=>none) (cK (AZ P T N l (l.take k) (λ_=>none) env (aL a)).env b (.d rd)) (aL a)).env
     (AZ P T N l (l.drop (k+1)) (λ_=>none) (cK (AZ P T N l (l.take k) (λ_=>none) env (aL a)).env b (.d rd)) (aL a)).H (i+n)):Hl F N pins (.region id l.toArray false) Q env H i:=by
 subst C;obtain⟨⟨v,d,y,z⟩,A,B⟩:=h;have e:l=l.take k++o::l.drop (k+1):=by
  have f:=(A8.1 t).1;have I:=(A8.1 t).2
  conv=>lhs;rw[<-I8 k l]
  rw[List.drop_eq_getElem_cons f,I]
 have q:=aAY (F:=F) (pins:=pins) (Q:=Q) (env:=env) (H:=aL a) (i:=i) (id:=id) hT hW (pre:=l.take k) (post:=l.drop (k+1)) (o:=o) (dst:=b) (λ_=>none) (λ_=>⟨rfl,λ_ h=>h⟩) K G J D m (s1:=AZ P T N l (l.take k) (λ_=>none) env (aL a))
  (s2:=AZ P T N l (l.drop (k+1)) (λ_=>none) (cK (AZ P T N l (l.take k) (λ_=>none) env (aL a)).env b (.d rd)) (aL a)) (by rw[<-e];rfl) v (by rw[d];exact CQ g) (by rw[d];exact λid h=>j id (pA id h)) (by rw[d];exact y) (by rw[d];exact z) c
  (by rw[<-e,d];rfl) A B
 rwa[<-e]at q
end
end
section
open Go.RowKit
section
variable{P:Program} {N:Nat} {w0:dH} {X:Nat->Prop} {Q:LX->eO->dQ->Prop} {env:eO} {H:dQ}
theorem iU{c:Code}(b j id s:Nat){fz:Bool}{cs:List LV}(z:0<s)(h:H b=.box fz cs/\cs[j]? =some .nl/\H id=.absent/\fL P N w0 X c Q env (cK (cK H id (.row false s [])) b (.box fz (cs.set j (.ow id 0 0))))):fL P N w0 X c Q env H:=by
 obtain⟨n,x,k,h⟩:=h;have o:b≠id:=λe=>by rw[e,k]at n;cases n
 intro r l β a w m;obtain⟨A,q⟩:=xI m.mem k z;obtain⟨f,u⟩:=A.rebox (b:=b) (fz:=fz) (cs:=cs) (cs':=cs.set j (.ow id 0 0)) (by rw[cJ _ _ o];exact n) bC λi c B v g d l=>by
  rw[List.getElem?_set]at d;by_cases e:j=i
  .subst e;rw[x]at g;injection g with g;subst g
   have y:=(A8.1 x).1;simp[y]at d;subst d;cases l with|nl p=>exact .ow0 id 0 p false s [] (by rw[bB]) (.inl ⟨by rw[bB],rfl⟩)
  .simp only[e,if_false]at d;rw[g]at d;injection d with d;subst d
   exact l
 exact h r l _ a w ⟨u.marks (q.marks m.defers),m.size,f.ext,f.xold,f.fresh,f.inj,λt=>u.R (q.R (m.env t)),f.obj,f.pin⟩
end
end
section
open Go.RowKit Go.Shelf Go.Sort Go.Proofs
structure BO{α:Type}(k:Nat)(d:α->DV)(enc:α->List Value):Prop where
 pos:0<k
 len:∀x,(enc x).length=k
 lenD:∀x,(aV (d x)).length=k
 one:∀x,∀v∈enc x,v.oneCell'=true
 cell:∀(x:α) (i:Nat) (c:DV) (v:Value),(aV (d x))[i]? =some c->(enc x)[i]? =some v->∀w E u,RD w E c u↔u=v
theorem OZ{α:Type}[Inhabited α]{k:Nat}{d:α->DV}{a:α->List Value}(C:BO k d a)(l:List α):(flatK a k l.toArray).toList=l.flatMap a:=by
 have h:=C.pos;apply K0;intro i;by_cases f:i<l.length*k
 .have b:i / k<l.length:=(Nat.div_lt_iff_lt_mul h).2 f;have j:=M0 i h;have m:(l.flatMap a)[i]? =(a l[i / k])[i%k]? :=by
   have g:∀(l:List α) (q r:Nat) (e:q<l.length),r<k->(l.flatMap a)[q*k+r]? =(a l[q])[r]? :=by
    intro l;induction l with
    |nil=>intro q r e;simp at e
    |cons x t ih=>
     intro q r e c;simp only[F9];cases q with
     |zero=>rw[L7,I2,B3 (by rw[C.len];exact c)];rfl
     |succ q=>
      rw[B2 (by rw[C.len,F8];omega),C.len,show(q+1)*k+r-k=q*k+r by rw[F8];omega];exact ih q r (by simpa using e) c
   have:=g l (i / k) (i%k) b j;rw[show i / k*k+i%k=i by rw[Nat.mul_comm];exact Nat.div_add_mod _ _]at this;exact this
  rw[m];have c:i%k<(a l[i / k]).length:=by rw[C.len];exact j
  have n:(flatK a k l.toArray)[i]? =some ((a l.toArray[i / k]!)[i%k]!):=by simp[flatK,f]
  rw[D6,n,A5 c];simp[b,c]
 .rw[G6 (by simp[flatK];omega),G6];have:(l.flatMap a).length=l.length*k:=by
   clear f;induction l with
   |nil=>simp
   |cons x t ih=>simp only[F9,B6,C.len,ih,I1,F8];omega
  omega
section
variable{P:Program} {ρ:Ren} {α:Type} [Inhabited α]
theorem Ba{α:Type}{k:Nat}{d:α->DV}{a:α->List Value}(C:BO k d a):∀(l:List α) (i:Nat) (c:DV) (v:Value),(bY (l.map d))[i]? =some c->(l.flatMap a)[i]? =some v->∀w E u,RD w E c u↔u=v
 |[],i,c,v,hc,_=>by simp[bY]at hc
 |x::t,i,c,v,hc,hv=>by
  simp only[F5,bY,F9]at hc hv;by_cases b:i<k
  .rw[B3 (by rw[C.lenD];exact b)]at hc;rw[B3 (by rw[C.len];exact b)]at hv;exact C.cell x i c v hc hv
  .rw[B2 (by rw[C.lenD];omega),C.lenD]at hc;rw[B2 (by rw[C.len];omega),C.len]at hv;exact Ba C t (i-k) c v hc hv
end
end
section
open Go.RowKit
def AbW{β:Type}(B:Nat)(J:β->World->Prop):Prop:=
 ∀s W W' row,J s W->W.grownBy W' row->W.drawn<=W'.drawn->(∀r,row=some r->B<=r/\∃o:Obj,W.heap[r]? =some o/\o.isCells=false)->J s W'
theorem AbW.putObj{β:Type}{B:Nat}{J:β->World->Prop}(h:AbW B J){s:β}{W:World}{l:Nat}{o:Obj}(a:Obj)(f:J s W)(b:B<=l)(c:W.heap[l]? =some o)(d:o.isCells=false):J s (W.putObj l a):=
 h s W _ (some l) f (grownBy_putObj' W l a) (A4 _) (λr e=>by cases e;exact⟨b,o,c,d⟩)
theorem AbW.alloc{β:Type}{B:Nat}{J:β->World->Prop}(h:AbW B J){s:β}{W:World}(o:Obj)(a:J s W):J s (W.alloc o):=
 h s W _ none a (World.grownBy_alloc W o none) (A4 _) (λr e=>by cases e)
def XA{α:Type}(B:Nat)(I:List α->World->Prop)(xs:List α)(W:World):Exit->Act->World->Prop
 | .normal,_,W'=>KeepsFrom B W W'/\KeepsWalks W W'/\I xs W'
 |_,_,_=>False
theorem yA{F:Fence}{n:Nat}{P:Program}{w:World}{α:Type}{g:Operand}{p:Tmp}{assign body:Code}{Q:Exit->Act->World->Prop}{a:Act}
 (hro:F.round=none)(h1:1<=n){gf:Nat}{lb:Array Value}(hg:a.eval g=.func (.func gf) #[] lb)(hFg:F.fn gf)(eg:∀args w,(callFunc gf args).run P w=.ok (.enter gf args) w)
 {enc:α->Value}{S:List α->Prop}{N:Nat}(I:List α->World->Prop)(hI:AbW w.heap.size I)(h0:I [] w)
 (hseq:∀(l:Nat) (J:List α->World->Prop) (W1:World),I [] W1->w.heap.size<=W1.heap.size->AbW W1.heap.size J->
   (∀pre x W,J pre W->pre.length<N->YieldAt F (n-1-1) P l #[enc x] W λe W'=>e=.returned (.bool true)/\J (pre++[x]) W'/\KeepsWalks W W')->J [] W1->
   CallsIn F (n-1) P gf (#[.func (.yield l) #[] #[]]++lb) W1 λe W'=>(∃v,e=.returned v)/\∃xs,S xs/\J xs W')
 (Ax:α->Act->World->Prop)(hAx:∀x a',AbW w.heap.size (λ(_:Unit) W=>Ax x a' W))
 (hassign:∀(l:Nat) (pre:List α) (x:α) (W:World) (K:Act->World->Prop),I pre W->(∀a' W',W.grownBy W' none->W.drawn<=W'.drawn->Ax x a' W'->K a' W')->
   assign.wpIn (F.inRound l) (n-1-1) P (Exit.then K (λ_ _ _=>False)) {tmps:=a.tmps.setIfInBounds p (enc x),defers:=[]} W)
 (hbody:∀(l:Nat) (pre:List α) (x:α) (a':Act) (W:World),I pre W->Ax x a' W->pre.length<N->body.wpIn (F.inRound l) (n-1-1) P (XA w.heap.size I (pre++[x]) W) a' W)
 (hdone:∀(D:Nat) (xs:List α) (W:World),w.heap.size<=D->S xs->I xs W->W.heap[D]? =some (.deferred (some []))->Q .normal {a with defers:={target:=.collected D,args:= #[]}::a.defers} W):
 (Code.rangeFunc g #[p] assign body).wpIn F n P Q a w:=by
 refine wpIn_rangeFunc ?_;intro fn hfn;rw[hro];obtain⟨rec,hrec⟩:∃rec:LoopState->Option Code->Loop,rec=λst pe=>{state:=st,pending:=pe,fn,tmps:=a.tmps,params:= #[p],assign,body,defers:=w.heap.size}:=⟨_,rfl⟩;obtain⟨W1,hW1⟩:∃W1,(w.alloc (.deferred (some []))).alloc (.loop (rec .ready none))=W1:=⟨_,rfl⟩;have hL1:W1.heap[w.heap.size+1]? =some (.loop (rec .ready none)):=by
  rw[<-hW1];have:=World.alloc_heap_new (w.alloc (.deferred (some []))) (.loop (rec .ready none));rwa[World.size_alloc]at this
 have hK1:W1.heap[w.heap.size]? =some (.deferred (some [])):=by
  rw[<-hW1];exact(Below.heap_alloc _ _ _ bC).trans (World.alloc_heap_new w _)
 have hI1:I [] W1:=by rw[<-hW1];exact hI.alloc _ (hI.alloc _ h0)
 have hs1:W1.heap.size=w.heap.size+2:=by rw[<-hW1];simp
 refine⟨w.heap.size+1,[{target:=.collected w.heap.size,args:= #[]}],W1,{target:=.fn (.func gf) lb,args:= #[.func (.yield (w.heap.size+1)) #[] #[]]},W1,gf,
  #[.func (.yield (w.heap.size+1)) #[] #[]]++lb,W1,?_,?_,?_,?_,λ_=>h1,?_⟩
 .rw[<-hW1,hrec];exact run_enterLoop_outer _ _ _ _ _
 .simp only[resolve,hg];simp[go_sem]
 .intro f' hf';simp[Target.leads]at hf';subst hf';exact hFg
 .simp[invoke,go_sem,eg]
 .have keep:∀{A B:World} {row:Option Nat} {k:Nat} {o:Obj},A.grownBy B row->(∀r,row=some r->W1.heap.size<=r/\∃o:Obj,A.heap[r]? =some o/\o.isCells=false)->k<W1.heap.size->A.heap[k]? =some o->B.heap[k]? =some o:=λ{A B row k o} hg' hr hk ho=>
   (hg'.block k (A0.1 ho).1 (λe=>by have:=(hr k e.symm).1;omega)).trans ho
  refine(hseq (w.heap.size+1) (λpre W=>I pre W/\W.heap[w.heap.size+1]? =some (.loop (rec .ready none))/\W.heap[w.heap.size]? =some (.deferred (some []))) W1 hI1 aE
   (λs A B row hs hg' hd hr=>⟨hI s A B row hs.1 hg' hd (λr e=>⟨by have:=(hr r e).1;omega,(hr r e).2⟩),keep hg' hr aE hs.2.1,keep hg' hr aE hs.2.2⟩)
   ?_ ⟨hI1,hL1,hK1⟩).mono ?_
  .rintro pre x W ⟨hi,hl,hk⟩ hlen;have hlt:w.heap.size+1<W.heap.size:=(A0.1 hl).1;have hy:(Instr.yield (w.heap.size+1) #[enc x]).run P W=.ok (.round (w.heap.size+1) fn (a.tmps.setIfInBounds p (enc x)) assign body) W:=by
    have:=run_yield (P:=P) (args:= #[enc x]) hl (by rw[hrec];simp);rw[hrec]at this;simpa using this
   refine⟨fn,_,assign,body,hy,roundIn_of_wpIn hfn (hassign _ pre x W _ hi ?_)⟩;intro a' Wa hga hda hax;have hla:=(hga.block _ (A0.1 hl).1 bC).trans hl;have hka:=(hga.block _ (A0.1 hk).1 bC).trans hk;have hia:I pre Wa:=hI pre W Wa none hi hga hda (λr e=>by cases e);have hwa:KeepsWalks W Wa:=KeepsWalks.of_grownBy hga (λj o e=>by cases e);have hlta:w.heap.size+1<Wa.heap.size:=(A0.1 hla).1;refine⟨_,run_beginRound hla (by rw[hrec]),?_⟩;have hl2:(Wa.putObj (w.heap.size+1) (.loop {rec .ready none with state:=.busy})).heap[w.heap.size+1]? =some (.loop {rec .ready none with state:=.busy}):=World.putObj_heap_same hlta;have hk2:(Wa.putObj (w.heap.size+1) (.loop {rec .ready none with state:=.busy})).heap[w.heap.size]? =some (.deferred (some [])):=(World.putObj_heap_other aE).trans hka;have hw2:KeepsWalks Wa (Wa.putObj (w.heap.size+1) (.loop {rec .ready none with state:=.busy})):=KeepsWalks.putObj _ hla rfl;refine wpIn_mono (hbody _ pre x a' _ (hI.putObj _ hia aE hla rfl) ((hAx x a').putObj (s:=()) _ hax aE hla rfl) hlen) ?_;rintro e a3 W3 hp;cases e with
   |normal=>
    obtain⟨hk3,hkp3,hi3⟩:=hp;have hl3:=hk3.same _ _ aE hl2 rfl;have hd3:=hk3.same _ _ (A4 _) hk2 rfl;have hr:=run_endRound (P:=P) none hl3;refine⟨_,_,hr,rfl,⟨hI.putObj _ hi3 aE hl3 rfl,?_,(World.putObj_heap_other aE).trans hd3⟩,(hwa.trans hw2).trans (hkp3.trans (KeepsWalks.putObj _ hl3 rfl))⟩;have:=World.putObj_heap_same (w:=W3) (o:=.loop (rec .ready none)) (A0.1 hl3).1;rw[hrec]at this|-;exact this
   |ret=>exact hp.elim
   |exit id=>exact hp.elim
   |goto t=>exact hp.elim
   |panic ch=>exact hp.elim
   |outgrown=>exact hp.elim
  .rintro e W2 ⟨⟨v,rfl⟩,xs,hS,hi,hl,hk⟩;exact⟨none,_,by have:=run_endLoop (P:=P) hl (by rw[hrec];simp);rw[hrec]at this;exact this,hdone _ xs _ (A4 _) hS (hI.putObj _ hi aE hl rfl) ((World.putObj_heap_other aE).trans hk)⟩
structure wS(s:Nat)(b0:Option Nat)(base:Nat)(W:World)(v:Value)(n:Nat)(cells:List Value)(gb:Option Nat):Prop where
 len:cells.length=n*s
 one:∀u∈cells,u.oneCell'=true
 lies:(gb=none/\n=0/\∃a,v=.slice a 0 0)\/∃g cap cur e,gb=some g/\v=.slice (some ⟨g,0,none⟩) n cap/\(b0=some g\/base<=g)/\W.heap[g]? =some (.cells cur e (0,0))/\n<=cap/\cap<=maxLen/\cap*s=cur.size/\cur.toList.take (n*s)=cells
theorem wS.kept{s:Nat}{l:Option Nat}{b:Nat}{W k:World}{v:Value}{n:Nat}{a:List Value}{f d:Option Nat}(h:wS s l b W v n a f)(u:W.grownBy k d)(c:f=none\/f≠d):wS s l b k v n a f:=by
 refine⟨h.len,h.one,?_⟩;rcases h.lies with p|⟨g,i,j,e,rfl,q,r,m,t⟩
 .exact .inl p
 .refine .inr ⟨g,i,j,e,rfl,q,r,(u.block g (A0.1 m).1 (λo=>?_)).trans m,t⟩;rcases c with c|c
  .cases c
  .exact c o
theorem wS.append{P:Program}{t e:TypeId}{i:TypeInfo}{z:Value}{s:Nat}(ty:TypeId)(Z:P.underlying t=some (.slice e))(hi:P.info? e=some i)(hz:i.zero=some z)(J:i.size=s)(a7:z.cells.size=s)(hs:0<s)
 {b0:Option Nat}{x:Nat}{W:World}{v:Value}{n:Nat}{l:List Value}{G:Option Nat}(h:wS s b0 x W v n l G)(H:x<=W.heap.size){L c:Nat}{d:List Value}(hn:d.length=s)(h1:∀u∈d,u.oneCell'=true)
 (hc:∀(j:Nat) (u:Value),d[j]? =some u->W.cell? ⟨L,j,none⟩=some u)(hb:(n+1)*i.bytes<=140737488355328)(hm:n+1<=140737488355328):
 ∃X B q,(Builtin.append_ #[t,t] ty #[v,.slice (some ⟨L,0,none⟩) 1 c]).run P W=.ok X B/\wS s b0 x B X (n+1) (l++d) (some q)/\W.grownBy B G/\W.drawn<=B.drawn/\(G=some q\/q=W.heap.size)/\
  ((q=W.heap.size/\W.grownBy B none)\/(G=some q/\∀f e,W.heap[q]? =some (.cells f e (0,0))->∃m,B.heap[q]? =some (.cells m e (0,0))/\m.size=f.size/\m.toList.take (n*s)=f.toList.take (n*s))):=by
 have y:(l++d).length=(n+1)*s:=by rw[B6,h.len,hn,F8];omega
 have E:∀u∈l++d,u.oneCell'=true:=λu F=>(List.mem_append.1 F).elim (h.one u) (h1 u);have S:(Builtin.lenOf (.slice (some ⟨L,0,none⟩) 1 c)).run P W=.ok 1 W:=by simp[Builtin.lenOf]
 have hf:∀C:World,C.heap=W.heap->(Builtin.firstCells i.size 1 (.slice (some ⟨L,0,none⟩) 1 c)).run P C=.ok d.toArray C:=λC hw=>
  jT (by rw[J];omega) λj u F=>by rw[tY hw];simpa using hc j u F
 have hd:∀k,(TypeDesc.slice e)≠ .int k:=λk=>bC;have V:∀{Y:Option Addr} {b:Nat} (A:List Value),A=l->(∀C:World,C.heap=W.heap->(Builtin.firstCells i.size n (.slice Y n b)).run P C=.ok A.toArray C)->b<n+1->
  ∃X B q,(Builtin.append_ #[t,t] ty #[.slice Y n b,.slice (some ⟨L,0,none⟩) 1 c]).run P W=.ok X B/\wS s b0 x B X (n+1) (l++d) (some q)/\W.grownBy B G/\W.drawn<=B.drawn/\(G=some q\/q=W.heap.size)/\
  ((q=W.heap.size/\W.grownBy B none)\/(G=some q/\∀f e,W.heap[q]? =some (.cells f e (0,0))->∃m,B.heap[q]? =some (.cells m e (0,0))/\m.size=f.size/\m.toList.take (n*s)=f.toList.take (n*s))):=by
  intro Y b A ho a6 N;subst ho;have p:=rG (P:=P) (w:=W) (ty:=ty) (base:=Y) (sLen:=n) (sCap:=b) Z Z hd hi hz S hf a6 N aE hb;have a4:=grownCap_ge W (n+1) b e;have a3:(A.toArray++d.toArray++Builtin.zeroCells z.cells (grownCap W (n+1) b e-(n+1))).size=grownCap W (n+1) b e*s:=by
   simp only[H9,G0,size_zeroCells,a7,h.len,hn];have:(n+1+(grownCap W (n+1) b e-(n+1)))*s=n*s+s+(grownCap W (n+1) b e-(n+1))*s:=by rw[F8,F8];omega
   rw[<-this];congr 1;omega
  refine⟨_,_,_,p,⟨y,E,.inr ⟨_,_,_,e,rfl,rfl,.inr H,heap_alloc_new W.drew _,a4,grownCap_le_maxLen W (n+1) b e (by unfold maxLen;omega),a3.symm,?_⟩⟩,⟨rfl,rfl,rfl,bC,λk Q _=>heap_alloc_old W.drew _ Q⟩,J1 _,.inr rfl,.inl ⟨rfl,⟨rfl,rfl,rfl,bC,λk Q _=>heap_alloc_old W.drew _ Q⟩⟩⟩;rw[<-y];simp only[Array.toList_append,D8];rw[<-D8,J2]
 rcases h.lies with⟨rfl,rfl,a,rfl⟩|⟨g,b,f,M,rfl,rfl,a0,o,a5,a2,I,K⟩
 .have a1:l=[]:=A7 (by simpa using h.len);refine V [] a1.symm (λC _=>by cases a<;>simp[Builtin.firstCells,loadCells,loadCellsFrom]) aE
 .by_cases r:n+1<=b
  .have a9:n*s+d.length<=f.size:=by
    rw[hn,<-I];have:(n+1)*s<=b*s:=G8 _ r;rw[F8]at this;omega
   have p:=lE (P:=P) (w:=W) (ty:=ty) (base:=some ⟨g,0,none⟩) (sLen:=n) (sCap:=b) Z Z hd hi S hf r;have U:=run_storeCells_at P g (n*s) M d 0 f W o aE h1;simp only[Nat.add_zero]at U;simp only[Addr.add_lit,I2,J]at p;rw[U]at p;have O:f.toList.length=f.size:=bC;refine⟨_,_,g,p,⟨y,E,.inr ⟨g,b,_,M,rfl,rfl,a0,setRow_heap W g f _ M (0,0) o,r,a2,?_,?_⟩⟩,⟨rfl,rfl,rfl,bC,λk _ Q=>setRow_other W g k _ (λe=>Q (by rw[e]))⟩,A4 _,.inl rfl,.inr ⟨rfl,λa8 e2 D=>?_⟩⟩
   .rw[I];simp only[G0,B6,C8,C9,O];omega
   .simp only[K];rw[D8,<-D8,<-y,J2]
   .rw[o]at D;injection D with D;injection D with p1 p2;subst p1;subst p2
    refine⟨_,setRow_heap W g f _ M (0,0) o,?_,?_⟩
    .simp only[G0,B6,C8,C9,O];omega
    .simp only[K];rw[D8,<-h.len,J2]
  .refine V (f.toList.take (n*s)) K (λC hw=>?_) aE;refine jT (by rw[J,C8,F6,<-I];have:n*s<=b*s:=G8 _ a5;omega) λj u F=>?_;rw[tY hw,cell_of_row W g _ f M (0,0) o];rw[F0]at F;split at F
   .simpa using F
   .cases F
theorem AG{F:Fence}{H:Nat}{P:Program}(W:World){q:Array Oper}{l:List Oper}{o:Oper}{a:Act}{Q:Exit->Act->World->Prop}(Y:o.guard=none)(I x:Operand)(t:TypeId)(B:o.op=.call {callee:=.builtin .append,args:= #[I,x],argTypes:= #[t,t]})
 {e:TypeId}{i:TypeInfo}{z:Value}{s:Nat}(ht:P.underlying t=some (.slice e))(Z:P.info? e=some i)(hz:i.zero=some z)(C:i.size=s)(D:z.cells.size=s)(hs:0<s)
 {G:Option Nat}{b:Nat}{v:Value}{n:Nat}{d:List Value}{r:Option Nat}(hv:a.eval I=v)(h:wS s G b W v n d r)(p:b<=W.heap.size){E c:Nat}{news:List Value}(hx:a.eval x=.slice (some ⟨E,0,none⟩) 1 c)(hn:news.length=s)(J:∀u∈news,u.oneCell'=true)
 (X:∀(j:Nat) (u:Value),news[j]? =some u->W.cell? ⟨E,j,none⟩=some u)(V:(n+1)*i.bytes<=140737488355328)(hm:n+1<=140737488355328)
 (U:∀w k g,wS s G b k w (n+1) (d++news) (some g)->W.grownBy k r->W.drawn<=k.drawn->(r=some g\/g=W.heap.size)->
   ((g=W.heap.size/\W.grownBy k none)\/(r=some g/\∀m e,W.heap[g]? =some (.cells m e (0,0))->∃f,k.heap[g]? =some (.cells f e (0,0))/\f.size=m.size/\f.toList.take (n*s)=m.toList.take (n*s)))->wpListIn F H P q Q l (a.put o.dst w) k):wpListIn F H P q Q (o::l) a W:=by
 refine wpListIn_plain Y λK y=>?_;obtain⟨w,k,g,hr,L,M,N,O,S⟩:=h.append o.type ht Z hz C D hs p hn J X V hm;unfold Oper.wpIn;refine⟨by simp[Oper.about,B,resolve,Target.leads,Sem.run_pure],?_⟩;rw[Oper.semAt_plain F _ _ (by rw[B];intro c A;cases A)];simp[execOp,B,resolve,invoke,builtin,hv,hx,Result.andThen];rw[hr];exact y _ _ (U w k g L M N O S)
structure HY(b0:Option Nat)(W0 W:World):Prop where
 os:W.os=W0.os
 tape:W.tape=W0.tape
 output:W.output=W0.output
 size:W0.heap.size<=W.heap.size
 block:∀k,k<W0.heap.size->some k≠b0->W.heap[k]? =W0.heap[k]?
 drawn:W0.drawn<=W.drawn
theorem HY.refl(a:Option Nat)(W:World):HY a W W:=⟨rfl,rfl,rfl,A4 _,λ_ _ _=>rfl,A4 _⟩
theorem HY.step{f:Option Nat}{d W c:World}{b:Option Nat}(h:HY f d W)(a:W.grownBy c b)(j:W.drawn<=c.drawn)(l:∀r,b=some r->f=some r\/d.heap.size<=r):HY f d c:=
 ⟨a.os.trans h.os,a.tape.trans h.tape,a.output.trans h.output,C6 h.size a.size,λk i g=>(a.block k (B8 i h.size) (λe=>by rcases l k e.symm with q|q;exact g q.symm;omega)).trans (h.block k i g),C6 h.drawn j⟩
def DQ(m:Nat)(b0:Option Nat)(W0 W:World):Prop:=∀g cur0 e0,b0=some g->W0.heap[g]? =some (.cells cur0 e0 (0,0))->∃cur,W.heap[g]? =some (.cells cur e0 (0,0))/\cur.size=cur0.size/\cur.toList.take m=cur0.toList.take m
theorem DQ.refl(m:Nat)(b:Option Nat)(W:World):DQ m b W W:=λ_ a _ _ h=>⟨a,h,rfl,rfl⟩
theorem DQ.step{m:Nat}{d:Option Nat}{k W j:World}{c:Option Nat}(h:DQ m d k W)(r:W.grownBy j c)(b:d=none\/d≠c):DQ m d k j:=λg a n f o=>by
 obtain⟨i,l,p,q⟩:=h g a n f o;refine⟨i,(r.block g (A0.1 l).1 (λe=>?_)).trans l,p,q⟩;rcases b with b|b
 .rw[b]at f;cases f
 .exact b (f.trans e)
theorem DQ.write{m n:Nat}{j l:Option Nat}{q W i:World}{d:Nat}(h:DQ m j q W)(x:m<=n)(w:W.grownBy i l)
 (p:(d=W.heap.size/\W.grownBy i none)\/(l=some d/\∀b e,W.heap[d]? =some (.cells b e (0,0))->∃a,i.heap[d]? =some (.cells a e (0,0))/\a.size=b.size/\a.toList.take n=b.toList.take n)):DQ m j q i:=by
 rcases p with⟨_,o⟩|⟨f,p⟩
 .exact h.step o (by cases j<;>simp)
 .by_cases e:j=l
  .intro g c r k s;rw[e,f]at k;injection k with k;subst k
   obtain⟨b,t,u,v⟩:=h d c r (e.trans f) s;obtain⟨a,q1,q2,q3⟩:=p b r t;refine⟨a,q1,q2.trans u,?_⟩;have:=congrArg (A9 m) q3;rw[J3,J3,I7 x]at this;exact this.trans v
  .exact h.step w (.inr e)
section
variable{w0:dH} {X:Nat->Prop} {H:Nat->bI} {β:Nat->Option Nat} {w w':World} {α:Type} [Inhabited α] {k:Nat} {d:α->DV} {enc:α->List Value}
theorem BO.flat_len(C:BO k d enc)(l:List α):(l.flatMap enc).length=l.length*k:=by rw[<-OZ C l];simp
theorem BO.flatD_len{α:Type}{k:Nat}{d:α->DV}{enc:α->List Value}(C:BO k d enc)(l:List α):(bY (l.map d)).length=l.length*k:=by
 rw[Go.Eng.flat_len (size:=k) (λx a=>by obtain⟨y,_,rfl⟩:=B9.1 a;exact C.lenD y)];simp
theorem BO.all{α:Type}{k:Nat}{d:α->DV}{enc:α->List Value}(C:BO k d enc)(l:List α):∀x∈l.map d,(aV x).length=k:=λx a=>by obtain⟨y,_,rfl⟩:=B9.1 a;exact C.lenD y
theorem BO.reads(C:BO k d enc){l:List α}{a:Array Value}(h:a.toList.take (l.length*k)=l.flatMap enc):l.length*k<=a.size/\∀(E:Nat->Prop) (W:World) (i:Nat) (c:DV) (v:Value),(bY (l.map d))[i]? =some c->a[i]? =some v->v.oneCell'=true/\RD W E c v:=by
 have j:=congrArg List.length h;rw[C8,C.flat_len]at j;have f:a.toList.length=a.size:=bC;refine⟨aE,λE W i c v e m=>?_⟩;have g:i<l.length*k:=by have:=(A8.1 e).1;rw[C.flatD_len]at this;exact this
 have b:(l.flatMap enc)[i]? =some v:=by rw[<-h,F0,if_pos g];simpa using m
 refine⟨?_,(Ba C l i c v e b _ _ _).2 rfl⟩;obtain⟨x,_,n⟩:=List.mem_flatMap.1 (G9 b);exact C.one x v n
theorem BO.holds(C:BO k d enc){l:List α}{a:Array Value}(j:l.length*k<=a.size){E:Nat->Prop}{W:World}(h:∀(i:Nat) (c:DV) (v:Value),(bY (l.map d))[i]? =some c->a[i]? =some v->RD W E c v):a.toList.take (l.length*k)=l.flatMap enc:=by
 apply K0;intro i;rw[F0];by_cases b:i<l.length*k
 .rw[if_pos b];have e:i<a.size:=aE;have f:i<(l.flatMap enc).length:=by rw[C.flat_len];exact b
  have g:i<(bY (l.map d)).length:=by rw[C.flatD_len];exact b
  have:=(Ba C l i _ _ (A5 g) (A5 f) W E _).1 (h i _ _ (A5 g) (H7 e));rw[A5 f,<-this];simp[e]
 .rw[if_neg b,G6 (by rw[C.flat_len];omega)]
theorem aAZ(f:Nat->bI)(i:Nat)(x y:bI):cK (cK f i x) i y=cK f i y:=by funext j;simp only[cK];split<;>rfl
theorem dX.appended(C:BO k d enc)(m:dX w0 X H β w){id new:Nat}{l p:List α}{L gb:Option Nat}{v:Value}(I:H id=.row false k (l.map d))(r:H new=.absent)(O:(L=none/\l=[])\/(∃b,L=some b/\β id=some b/\∃q e,w.heap[b]? =some (.cells q e (0,0))/\q.toList.take (l.length*k)=l.flatMap enc))
 (hr:wS k L w.heap.size w' v (l.length+p.length) ((l++p).flatMap enc) gb)(y:HY L w w')(hh:DQ (l.length*k) L w w'):
 ∃A,dX w0 X (cK (cK H id .dead) new (.row false k ((l++p).map d))) A w'/\R w' (Ex X A (cK (cK H id .dead) new (.row false k ((l++p).map d)))) A (cK (cK H id .dead) new (.row false k ((l++p).map d))) (.ow new 0 (l.length+p.length)) v:=by
 have V:id≠new:=λe=>by rw[e,r]at I;cases I
 have x:(H id).live=true:=by rw[I];rfl
 have U:(H id).mut=true:=by rw[I];rfl
 have a6:(l++p).length=l.length+p.length:=bC;obtain⟨z,n⟩:∃z:World,z={w with heap:=w'.heap.extract 0 w.heap.size}:=⟨_,rfl⟩;have S:z.heap.size=w.heap.size:=by rw[n];simp[y.size]
 have F:∀j,j<w.heap.size->z.heap[j]? =w'.heap[j]? :=λj M=>by
  rw[n];simp only[I4];have:=y.size;rw[if_pos aE];congr 1;omega
 have u:Bz z.heap.size z w':=by
  refine⟨?_,?_,?_,by rw[S];exact y.size,λj M=>(F j aE).symm,?_⟩<;>rw[n]
  .exact y.os
  .exact y.tape
  .exact y.output
  .exact y.drawn
 have J:dX w0 X H β z:=by
  rcases O with⟨rfl,_⟩|⟨b,rfl,B,q,e,f,G⟩
  .have e:z=w:=by
    have:w'.heap.extract 0 w.heap.size=w.heap:=by
     apply Array.ext_getElem?;intro j;by_cases M:j<w.heap.size
     .have Z:=F j M;rw[n]at Z;exact Z.trans (y.block j M bC)
     .have:=y.size;rw[I4,if_neg aE,G4 aE]
    rw[n,this]
   rw[e];exact m
  .obtain⟨s,q1,q2,q3⟩:=hh b q e rfl f;have a1:=(A0.1 f).1;have W:z.heap[b]? =some (.cells s e (0,0)):=(F b a1).trans q1;have:=m.rewriteG (id:=id) (b:=b) (o':=.row false k (l.map d)) (w':=z) U B (by rw[n]) (by rw[n]) (by rw[n]) (by rw[n];exact A4 _) S (λj M=>by
    by_cases Q:j<w.heap.size
    .rw[F j Q];exact y.block j Q (λe=>M (by injection e))
    .rw[G4 aE,G4 aE]) (by
    unfold bW;rw[I,bB];refine .inr ⟨⟨false,_,rfl,A4 _⟩,rfl,λb' c' t D c=>?_⟩;rw[B]at D;injection D with D;subst D
    rw[f]at c;injection c with c;injection c with p1 p2;subst p1;subst p2
    exact⟨s,e,W,q2⟩) (λ_ _=>by
    unfold dT;rw[bB];obtain⟨r1,r2⟩:=C.reads (q3.trans G);exact⟨C.pos,C.all l,.inr ⟨b,e,s,B,W,by simpa using r1,r2 _ _⟩⟩)
   rw[FA I]at this;exact this.1
 rcases hr.lies with⟨rfl,hz,a,rfl⟩|⟨g,N,q,e,rfl,rfl,a0,f,a7,a2,a3,G⟩
 .have a5:l=[]:=A7 aE;have a8:p=[]:=A7 aE;subst a5;subst a8;obtain⟨Y,_⟩:=J.kill id x;obtain⟨m3,_⟩:=Y.grow u;obtain⟨m4,_⟩:=xI m3 (d:=new) (by rw[cJ _ _ (Ne.symm V)];exact r) C.pos;exact⟨_,m4,.ow0 new 0 a false k [] (by rw[bB];rfl) (.inl ⟨by rw[bB],rfl⟩)⟩
 .rw[<-a6]at G;obtain⟨r1,r2⟩:=C.reads G;have P:∀(A:Nat->Option Nat) (K:Nat->bI),K new=.row false k ((l++p).map d)->A new=some g->R w' (Ex X A K) A K (.ow new 0 (l.length+p.length)) (.slice (some ⟨g,0,none⟩) (l.length+p.length) N):=λA K Z h2=>by
   have hR:=R.ow (w:=w') (E:=Ex X A K) (β:=A) (H:=K) new 0 (l.length+p.length) g N false k ((l++p).map d) q e Z h2 bC a7 a2 f (by rw[I2];exact a3);rw[L7]at hR;exact hR
  by_cases a9:g<w.heap.size
  .have i:L=some g:=a0.resolve_right aE;have hβ:β id=some g:=by
    rcases O with⟨h,_⟩|⟨b,h,B,_⟩
    .rw[h]at i;cases i
    .rw[h]at i;injection i with i;rw[<-i];exact B
   obtain⟨Y,_⟩:=J.grow u;obtain⟨m3,_⟩:=Y.moveObj (id:=id) (d:=new) l.length I r;have:=m3.rewriteG (id:=new) (b:=g) (o':=.row false k ((l++p).map d)) (w':=w') (by rw[bB];rfl) (by rw[bB];exact hβ) rfl rfl rfl (A4 _) rfl (λ_ _=>rfl) (by
    unfold bW;rw[bB,bB];exact .inr ⟨⟨false,_,rfl,bC⟩,rfl,λb' c' t _ c=>⟨c',t,c,rfl⟩⟩) (λ_ _=>by
    unfold dT;rw[bB];exact⟨C.pos,C.all _,.inr ⟨g,e,q,by rw[bB];exact hβ,f,by simpa using r1,r2 _ _⟩⟩)
   rw[aAZ]at this;exact⟨_,this.1,P _ _ (by rw[bB]) (by rw[bB];exact hβ)⟩
  .obtain⟨Y,_⟩:=J.kill id x;have a4:=(A0.1 f).1;have:=Y.newObj u (d:=new) (by rw[cJ _ _ (Ne.symm V)];exact r) (o:=.row false k ((l++p).map d)) (some g) (λb B=>by injection B with B;subst B;exact⟨aE,a4⟩) (λ_ _=>by
    unfold dT;rw[bB];exact⟨C.pos,C.all _,.inr ⟨g,e,q,by rw[bB],f,by simpa using r1,r2 _ _⟩⟩)
   exact⟨_,this.1,P _ _ (by rw[bB]) (by rw[bB])⟩
end
end
section
open Go.RowKit
section
variable{P:Program} {a:Act} {w:World} {ops:Array Oper} {Q:Exit->Act->World->Prop} {l:List Oper} {o:Oper}
theorem bN(b:o.guard=none){v:Value}{w':World}(d:(execOp a.eval o).run P w=.ok (.value v) w')(c:wpList P ops Q l (a.put o.dst v) w'):wpList P ops Q (o::l) a w:=by
 unfold wpList;rw[if_pos (by simp[Region.wanted,b])];left;unfold Oper.wp;rw[d];exact c
theorem DR(b:o.guard=none){w':World}(d:(execOp a.eval o).run P w=.ok .skip w')(c:wpList P ops Q l (a.put o.dst undef) w'):wpList P ops Q (o::l) a w:=by
 unfold wpList;rw[if_pos (by simp[Region.wanted,b])];left;unfold Oper.wp;rw[d];exact c
theorem LO(c:o.guard=none){f:FuncId}{vs:Array Value}{w':World}(g:(execOp a.eval o).run P w=.ok (.enter f vs) w')(d:Calls P f vs w' λe b=>∃v,e=.returned v/\wpList P ops Q l (a.put o.dst v) b):wpList P ops Q (o::l) a w:=by
 unfold wpList;rw[if_pos (by simp[Region.wanted,c])];left;unfold Oper.wp;rw[g];simp only[Oper.upon];refine d.mono ?_;rintro e b ⟨v,rfl,h⟩;exact h
theorem cD{d t:Nat}{v:Value}:(a.put (some d) v).eval (.tmp t)=if t=d/\d<a.tmps.size then v else a.eval (.tmp t):=by
 show(a.put (some d) v).tmps.getD t undef=if t=d/\d<a.tmps.size then v else a.tmps.getD t undef;simp only[Act.put,C7,F4];by_cases h:d=t
 .subst h;by_cases b:d<a.tmps.size
  .simp[b]
  .simp[b]
 .rw[if_neg h,if_neg (λe=>h e.1.symm)]
theorem cF{d:Nat}{v:Value}:(a.put (some d) v).tmps.size=a.tmps.size:=by simp[Act.put]
theorem Sf{v:Value}:a.put none v=a:=rfl
theorem XB(b j:Nat):(⟨b,0,none⟩:Addr).add j=⟨b,j,none⟩:=by unfold Addr.add;split<;>simp_all
theorem AM{p:TypeId}(k:∀w:World,(sizeOf p).run P w=.ok 1 w){b i:Nat}{n:Int}{a:Array Value}{e:TypeId}{g:Nat×Nat}(c:w.heap[b]? =some (.cells a e g))(r:i<a.size)(m:a.size<=g.1):
 (storeVar p ⟨b,i,none⟩ (.int .u8 n)).run P w=.ok () (w.setRow b (a.setIfInBounds i (.int .u8 n))):=by
 have q:(Value.int .u8 n).cells= #[.int .u8 n]:=rfl;unfold storeVar;rw[Sem.run_bind,k];have d:w.cell? ⟨b,i,none⟩=some a[i]:=by simp[World.cell?,c,r]
 obtain⟨o,j⟩:=g;have h:w.frozen? ⟨b,i,none⟩=false:=by
  simp only[World.frozen?,c];have m:a.size<=o:=m;simp;omega
 have f:(⟨b,i,none⟩:Addr).add 0=⟨b,i,none⟩:=rfl;have l:(store ((⟨b,i,none⟩:Addr).add 0) (.int .u8 n)).run P w=.ok () (w.setRow b (a.setIfInBounds i (.int .u8 n))):=by
  rw[f,run_store P w _ _ _ rfl,d];simp[h,setCell_eq_setRow w b i a e (o,j) _ c]
 simp only[q,Result.andThen_ok,G0,I1,List.length_nil,ne_eq,not_true_eq_false,if_false,storeCells,Sem.run_bind,l];rfl
end
section
variable{P:Program} {T:TypeId->cX} {w0:dH} {X:Nat->Prop} {Q:LX->eO->dQ->Prop} {env:eO} {H:dQ}
theorem LP(hT:gI P T){i1 i2 i3:Nat}{o1 o2 o3 p1 p2 p3 p4 p5 p6 p7 p8 p9 q1 q2 q3:Oper}{A:Code}{ts M l ti:TypeId}{O:FuncId}{ta:Array TypeId}
 (us:P.underlying ts=some .string)(ub:P.underlying M=some (.slice l))(ue:P.underlying l=some (.int .u8))(ui:P.underlying ti=some (.int .i64))(a1:∀w:World,(sizeOf l).run P w=.ok 1 w)
 (h1:o1.op=.move (.tmp 0))(d1:o1.dst=some 101)(g1:o1.guard=none)(h2:o2.op=.convert ts M (.tmp 101))(d2:o2.dst=some 102)(g2:o2.guard=none)
 (h3:o3.op=.assign (.tmp 102))(d3:o3.dst=some 13)(g3:o3.guard=none)
 (k1:p1.op=.move (.tmp 13))(e1:p1.dst=some 103)(f1:p1.guard=none)(k2:p2.op=.move (.tmp 1))(e2:p2.dst=some 104)(f2:p2.guard=none)
 (k3:p3.op=.move (.tmp 13))(e3:p3.dst=some 105)(f3:p3.guard=none)(k4:p4.op=.call {callee:=.builtin .len,args:= #[.tmp 105],argTypes:= #[M]})(e4:p4.dst=some 106)(f4:p4.guard=none)
 (k5:p5.op=.call {callee:=.value (.func O),args:= #[.tmp 104,.tmp 106],argTypes:=ta})(e5:p5.dst=some 107)(f5:p5.guard=none)
 (k6:p6.op=.move (.tmp 3))(e6:p6.dst=some 108)(f6:p6.guard=none)(k7:p7.op=.convert ti l (.tmp 108))(e7:p7.dst=some 109)(f7:p7.guard=none)
 (k8:p8.op=.indexAddr M (.tmp 103) (.tmp 107))(e8:p8.dst=some 110)(f8:p8.guard=none)(k9:p9.op=.store l (.tmp 110) (.tmp 109))(e9:p9.dst=none)(f9:p9.guard=none)
 (l1:q1.op=.move (.tmp 13))(m1:q1.dst=some 111)(n1:q1.guard=none)(l2:q2.op=.convert M ts (.tmp 111))(m2:q2.dst=some 112)(n2:q2.guard=none)
 (l3:q3.op=.assign (.tmp 112))(m3:q3.dst=some 8)(n3:q3.guard=none)
 {s:List UInt8}{x y:Int}{k:Nat}(v0:env 0=.d (.str s))(v1:env 1=.d (.int .i64 x))(v3:env 3=.d (.int .i64 y))(hk:k<s.length)(hA:Ok P O [.int .i64 x,.int .i64 s.length] ⟨.d (.int .i64 k),true⟩)
 (K:fL P 113 w0 X A Q (cK (cK (cK (cK (cK (cK (cK (cK (cK (cK (cK (cK (cK (cK env 101 .junk) 102 .junk) 13 .junk) 103 .junk) 104 .junk) 105 .junk) 106 .junk) 107 .junk) 108 .junk) 109 .junk) 110 .junk) 111 .junk) 112 .junk) 8 (.d (.str (s.set k (B7 (IntKind.u8.wrap y).toNat))))) H):
 fL P 113 w0 X (.seq (.region i1 [o1,o2,o3].toArray false) (.seq (.region i2 [p1,p2,p3,p4,p5,p6,p7,p8,p9].toArray false) (.seq (.region i3 [q1,q2,q3].toArray false) A))) Q env H:=by
 intro r hr β a w L;have o:a.tmps.size=113:=L.size;have z0:a.eval (.tmp 0)=.string ⟨s.toArray⟩:=by have h:=L.get (.tmp 0);rw[show lC env (.tmp 0)=env 0 from rfl,v0]at h;exact h.str
 have z1:a.eval (.tmp 1)=.int .i64 x:=by have h:=L.get (.tmp 1);rw[show lC env (.tmp 1)=env 1 from rfl,v1]at h;exact h.int
 have z3:a.eval (.tmp 3)=.int .i64 y:=by have h:=L.get (.tmp 3);rw[show lC env (.tmp 3)=env 3 from rfl,v3]at h;exact h.int
 obtain⟨S,hS⟩:∃S:ByteArray,S=⟨s.toArray⟩:=⟨_,rfl⟩;have E:S.size=s.length:=by rw[hS];simp[ByteArray.size]
 rw[<-hS]at z0;obtain⟨c,Z⟩:∃c,grownCap w S.size 0 l=c:=⟨_,rfl⟩;refine wpIn_seq (fO (λa w h=>lU a w h) hr.seq1 ?_);refine bN g1 (v:=.string S) (w':=w) (by simp[execOp,h1,z0]) ?_;rw[d1];have a0:=Lib.run_convert_string_bytes (P:=P) w ts M l S us ub ue;rw[Z]at a0;refine bN g2 (v:=.slice (some ⟨w.heap.size,0,none⟩) S.size c) (w':=Lib.bytesWorld w l S) (by simp[execOp,h2,cD,o,a0]) ?_;rw[d2];refine bN g3 (v:=.slice (some ⟨w.heap.size,0,none⟩) S.size c) (w':=Lib.bytesWorld w l S) (by simp[execOp,h3,cD,cF,o]) ?_;rw[d3];have F:=Lib.bytesWorld_at_new w l S;have a3:=Lib.bytesWorld_size w l S;have t:=Lib.bytesWorld_at_old w l S;have g:Bz w.heap.size w (Lib.bytesWorld w l S):=by
  refine⟨?_,?_,?_,aE,λj hj=>t j hj,?_⟩<;>(unfold Lib.bytesWorld World.freeze;split<;>first|rfl|exact J1 w.drawn)
 obtain⟨C,hC⟩:∃C,Lib.bytesCells w l S=C:=⟨_,rfl⟩;rw[hC]at F;generalize Lib.bytesWorld w l S=w1 at F a3 t g|-;show Code.wpIn (RF r) 0 P _ _ _ _;refine wpIn_seq (fO (λa w h=>lU a w h) hr.seq2.seq1 ?_);refine bN f1 (v:=.slice (some ⟨w.heap.size,0,none⟩) S.size c) (w':=w1) (by simp[execOp,k1,cD,cF,o]) ?_;rw[e1];refine bN f2 (v:=.int .i64 x) (w':=w1) (by simp[execOp,k2,cD,cF,o,z1]) ?_;rw[e2];refine bN f3 (v:=.slice (some ⟨w.heap.size,0,none⟩) S.size c) (w':=w1) (by simp[execOp,k3,cD,cF,o]) ?_;rw[e3];refine bN f4 (v:=.int .i64 S.size) (w':=w1) (by simp[execOp,k4,resolve,invoke,builtin,cD,cF,o,jU ub]) ?_;rw[e4];obtain⟨b0,_⟩:=L.mem.grow g;have G:=hA.2 w1 (λ_=>False) [.int .i64 x,.int .i64 s.length] ⟨λ_ h=>h.elim,b0.glob.anti λ_ h=>h.elim⟩ (.cons (.int _ _) (.cons (.int _ _) .nil));obtain⟨fn,a7,I,a6⟩:=hA.1;refine LO f5 (f:=O) (vs:= #[.int .i64 x,.int .i64 s.length]) (w':=w1) ?_ (G.mono ?_)
 .have a5:fn.body.isNone=false:=by cases q:fn.body<;>simp_all
  simp only[execOp,k5,resolve,Deferred.ofValue,Sem.run_bind,Sem.run_pure,Result.andThen_ok,invoke,callFunc,run_program,a7,I,H4,if_false,a5,show∀a:Act,a.eval (.func O)=.func (.func O) #[] #[] from λ_=>rfl];simp[cD,cF,o,E]
 rintro _ u ⟨v,rfl,i,m⟩;obtain⟨B,m⟩:=m;have hv:v=.int .i64 k:=by
  have m:RD u _ (.int .i64 (k:Int)) v:=m;cases m;rfl
 subst hv;refine⟨.int .i64 k,rfl,?_⟩;rw[e5];refine bN f6 (v:=.int .i64 y) (w':=u) (by simp[execOp,k6,cD,cF,o,z3]) ?_;rw[e6];refine bN f7 (v:=.int .u8 (IntKind.u8.wrap y)) (w':=u) (by simp[execOp,k7,cD,cF,o,convert,run_underlying ui,run_underlying ue,Conv.intToInt]) ?_;rw[e7];refine bN f8 (v:=.pointer (some ⟨w.heap.size,k,none⟩)) (w':=u) (by simp[execOp,k8,cD,cF,o,Instr.indexAt,asIntOf,run_underlying ub,a1,E,hk,XB]) ?_;rw[e8];have V:u.heap[w.heap.size]? =some (.cells C l (C.size,C.size+1)):=by rw[i.block _ aE];exact F
 have b3:S.size<=C.size:=by rw[<-hC];unfold Lib.bytesCells;rw[H9,L4];exact Nat.le_add_right _ _
 obtain⟨N,U⟩:∃N,C.setIfInBounds k (.int .u8 (IntKind.u8.wrap y))=N:=⟨_,rfl⟩;have a2:=AM (P:=P) (w:=u) a1 (n:=IntKind.u8.wrap y) V (show k<C.size by omega) (A4 _);rw[U]at a2;refine DR f9 (w':=u.setRow w.heap.size N) (by simp[execOp,k9,cD,cF,o,Instr.storeAt,Instr.sureAddr,a2]) ?_;rw[e9,Sf];have W:=setRow_heap u w.heap.size C N l (C.size,C.size+1) V;have z:Bz w.heap.size w (u.setRow w.heap.size N):=by
  refine⟨i.os.trans g.os,i.tape.trans g.tape,i.output.trans g.output,?_,λj hj=>?_,C6 g.drawn i.drawn⟩
  .have:=g.size;have:=i.size;simp[World.setRow];omega
  .rw[setRow_other _ _ _ _ aE,i.block j aE,g.block j hj]
 generalize u.setRow w.heap.size N=w3 at W z|-;show Code.wpIn (RF r) 0 P _ _ _ _;refine wpIn_seq (fO (λa w h=>lU a w h) hr.seq2.seq2.seq1 ?_);refine bN n1 (v:=.slice (some ⟨w.heap.size,0,none⟩) S.size c) (w':=w3) (by simp[execOp,l1,cD,cF,o]) ?_;rw[m1];obtain⟨D,J⟩:∃D,s.set k (B7 (IntKind.u8.wrap y).toNat)=D:=⟨_,rfl⟩;have a9:D.length=S.size:=by rw[<-J,List.length_set,E]
 have Y:=run_convert_bytes_back (P:=P) w3 M ts l ⟨w.heap.size,0,none⟩ c D ub ue us (λj hj=>by
  rw[XB,cell_of_row w3 _ j _ l _ W,<-U,<-hC,F4];have a8:j<s.length:=aE;have hu:0<=IntKind.u8.wrap y/\IntKind.u8.wrap y<256:=by
   unfold IntKind.wrap;simp[IntKind.bits,IntKind.signed];omega
  subst J;rw[List.getElem_set];by_cases e:k=j
  .subst e;rw[if_pos rfl,if_pos (by rw[hC];omega),if_pos rfl];have hn:(B7 (IntKind.u8.wrap y).toNat).toNat=(IntKind.u8.wrap y).toNat:=by rw[J8];omega
   rw[hn,Int.toNat_of_nonneg hu.1]
  .rw[if_neg e,if_neg e];simp[Lib.bytesCells,Array.getElem?_append,hS,a8])
 rw[a9]at Y;refine bN n2 (v:=.string ⟨D.toArray⟩) (w':=w3) (by simp[execOp,l2,cD,cF,o,Y]) ?_;rw[m2];refine bN n3 (v:=.string ⟨D.toArray⟩) (w':=w3) (by simp[execOp,l3,cD,cF,o]) ?_;rw[m3];rw[J]at K;obtain⟨b,a4⟩:=L.mem.grow z;have p:∀d,d<113->DJ 113 (some d):=λd h=>h;have t1:=L.put b a4 (.junk (.string S)) (p 101 bF);have t2:=t1.put b fG.refl (.junk (.slice (some ⟨w.heap.size,0,none⟩) S.size c)) (p 102 bF);have t3:=t2.put b fG.refl (.junk (.slice (some ⟨w.heap.size,0,none⟩) S.size c)) (p 13 bF);have t4:=t3.put b fG.refl (.junk (.slice (some ⟨w.heap.size,0,none⟩) S.size c)) (p 103 bF);have t5:=t4.put b fG.refl (.junk (.int .i64 x)) (p 104 bF);have t6:=t5.put b fG.refl (.junk (.slice (some ⟨w.heap.size,0,none⟩) S.size c)) (p 105 bF);have t7:=t6.put b fG.refl (.junk (.int .i64 S.size)) (p 106 bF);have t8:=t7.put b fG.refl (.junk (.int .i64 k)) (p 107 bF);have t9:=t8.put b fG.refl (.junk (.int .i64 y)) (p 108 bF);have t10:=t9.put b fG.refl (.junk (.int .u8 (IntKind.u8.wrap y))) (p 109 bF);have t11:=t10.put b fG.refl (.junk (.pointer (some ⟨w.heap.size,k,none⟩))) (p 110 bF);have t12:=t11.put b fG.refl (.junk (.slice (some ⟨w.heap.size,0,none⟩) S.size c)) (p 111 bF);have b1:=t12.put b fG.refl (.junk (.string ⟨D.toArray⟩)) (p 112 bF);have b2:=b1.put b fG.refl (zW D) (p 8 bF);have K:=K r hr.seq2.seq2.seq2 β _ w3 b2;exact K
end
end
section
open Go.RowKit
def LQ(i:Nat)(c:UInt8):UInt8:=if c=35 then B7 (48+i)else c
def mO(s:List UInt8)(i:Nat):List UInt8:=s.map (LQ i)
section
variable{P:Program} {T:TypeId->cX} {w0:dH} {X:Nat->Prop} {a:Act} {w:World} {ops:Array Oper} {Q:Exit->Act->World->Prop} {l:List Oper} {o:Oper}
theorem lW{d:Option Nat}{v:Value}:(a.put d v).defers=a.defers:=by cases d<;>rfl
theorem vO(c:o.guard=none){b:BinOp}{t u:TypeId}{x y:Operand}(e:o.op=.binOp b t x y u){k:IntKind}{m n:Int}(g:a.eval x=.int k m)(h:a.eval y=.int k n){v:Value}
 (f:(binOp b t (.int k m) (.int k n)).run P w=.ok v w)(d:wpList P ops Q l (a.put o.dst v) w):wpList P ops Q (o::l) a w:=by
 refine bN c (v:=v) (w':=w) ?_ d;simp only[execOp,e,g,h];rw[Sem.run_bind,Sem.run_bind,CI];simp only[Result.andThen_ok,f,Sem.run_pure]
theorem XC(t:TypeId){m n:Int}:(binOp .lss t (.int .i64 m) (.int .i64 n)).run P w=.ok (.bool (decide (m<n))) w:=by simp[binOp,Op.intCmp]
theorem XD(t:TypeId){m n:Int}:(binOp .eql t (.int .u8 m) (.int .u8 n)).run P w=.ok (.bool (decide (m=n))) w:=by simp[binOp,Op.intCmp,I9]
theorem LR(t:TypeId){m n:Int}(h: -9223372036854775808<=m+n/\m+n<=9223372036854775807):(binOp .add t (.int .i64 m) (.int .i64 n)).run P w=.ok (.int .i64 (m+n)) w:=by simp[binOp,Op.intArith,IntWalk.i64_in _ h]
end
def oE(o:Oper)(op:Op)(dst:Option Nat):Prop:=o.op=op/\o.dst=dst/\o.guard=none
structure Sg(s:List UInt8)(i m k B cap:Nat)(te:TypeId)(w00:World)(df:List Deferred)(a:Act)(w:World):Prop where
 size:a.tmps.size=28
 defers:a.defers=df
 e1:a.eval (.tmp 1)=.int .i64 i
 e5:a.eval (.tmp 5)=.slice (some ⟨B,0,none⟩) s.length cap
 e6:a.eval (.tmp 6)=.int .i64 k
 row:∃C:Array Value,w.heap[B]? =some (.cells C te (C.size,C.size+1))/\s.length<=C.size/\∀j (hj:j<s.length),C[j]? =some (.int .u8 (((if j<m then LQ i s[j]else s[j]):UInt8).toNat:Nat))
 bel:Bz w00.heap.size w00 w
section
variable{P:Program} {T:TypeId->cX} {w0:dH} {X:Nat->Prop} {Q:LX->eO->dQ->Prop} {env:eO} {H:dQ}
theorem TX(hT:gI P T){i1 i2 i3 i4 i5 i6 i7:Nat}{a1 a2 a3 b1 c1 c2 c3 c4 d1 d2 d3 d4 d5 e1 e2 e3 e4 e5 e6 e7 f1 f2 f3 g1 g2 g3:Oper}{ts Y f ti:TypeId}{u1 u2 u3 u4:TypeId}
 (us:P.underlying ts=some .string)(ub:P.underlying Y=some (.slice f))(ue:P.underlying f=some (.int .u8))(ui:P.underlying ti=some (.int .i64))(a0:∀w:World,(sizeOf f).run P w=.ok 1 w)
 (n1:(T f).k.isNone=false)(n2:(T f).size=1)(n3:(T f).k.agg=false)
 (A1:oE a1 (.move (.tmp 0)) (some 7))(A2:oE a2 (.convert ts Y (.tmp 7)) (some 8))(A3:oE a3 (.assign (.tmp 8)) (some 5))
 (B1:oE b1 (.assign (.const (.int .i64 0))) (some 6))
 (C1:oE c1 (.move (.tmp 6)) (some 9))(C2:oE c2 (.move (.tmp 5)) (some 10))(C3:oE c3 (.call {callee:=.builtin .len,args:= #[.tmp 10],argTypes:= #[Y]}) (some 11))(C4:oE c4 (.binOp .lss u1 (.tmp 9) (.tmp 11) u2) (some 12))
 (D1:oE d1 (.move (.tmp 5)) (some 15))(D2:oE d2 (.move (.tmp 6)) (some 16))(D3:oE d3 (.indexAddr Y (.tmp 15) (.tmp 16)) (some 17))(D4:oE d4 (.load f (.tmp 17)) (some 18))(D5:oE d5 (.binOp .eql u3 (.tmp 18) (.const (.int .u8 35)) u4) (some 19))
 (E1:oE e1 (.move (.tmp 5)) (some 20))(E2:oE e2 (.move (.tmp 6)) (some 21))(E3:oE e3 (.move (.tmp 1)) (some 22))(E4:oE e4 (.binOp .add u1 (.const (.int .i64 48)) (.tmp 22) u2) (some 23))(E5:oE e5 (.convert ti f (.tmp 23)) (some 24))
 (E6:oE e6 (.indexAddr Y (.tmp 20) (.tmp 21)) (some 25))(E7:oE e7 (.store f (.tmp 25) (.tmp 24)) none)
 (F1:oE f1 (.move (.tmp 6)) (some 13))(F2:oE f2 (.binOp .add u1 (.tmp 13) (.const (.int .i64 1)) u2) (some 14))(F3:oE f3 (.assign (.tmp 14)) (some 6))
 (G1:oE g1 (.move (.tmp 5)) (some 26))(G2:oE g2 (.convert Y ts (.tmp 26)) (some 27))(G3:oE g3 (.assign (.tmp 27)) (some 4))
 {s:List UInt8}{i:Nat}(v0:env 0=.d (.str s))(v1:env 1=.d (.int .i64 i))(hi:i<=9)(hs:s.length<=1000000000)
 (K:Q .ret (λt=>if t=4 then .d (.str (mO s i))else .junk) H):
 fL P 28 w0 X (.seq (.region i1 [a1,a2,a3].toArray false) (.seq (.seq (.region i2 [b1].toArray false) (.block 0 (.loop (.seq (.seq (.region i3 [c1,c2,c3,c4].toArray false) (.cond (.tmp 12) .skip (.exit 0)))
  (.seq (.block 1 (.seq (.region i5 [d1,d2,d3,d4,d5].toArray false) (.cond (.tmp 19) (.region i6 [e1,e2,e3,e4,e5,e6,e7].toArray false) .skip))) (.region i4 [f1,f2,f3].toArray false)))))) (.seq (.region i7 [g1,g2,g3].toArray false) .ret))) Q env H:=by
 intro r hr β a w sm;have hN:a.tmps.size=28:=sm.size;have z0:a.eval (.tmp 0)=.string ⟨s.toArray⟩:=by have h:=sm.get (.tmp 0);rw[show lC env (.tmp 0)=env 0 from rfl,v0]at h;exact h.str
 have z1:a.eval (.tmp 1)=.int .i64 i:=by have h:=sm.get (.tmp 1);rw[show lC env (.tmp 1)=env 1 from rfl,v1]at h;exact h.int
 obtain⟨S,hS⟩:∃S:ByteArray,S=⟨s.toArray⟩:=⟨_,rfl⟩;have c0:S.size=s.length:=by rw[hS];simp[ByteArray.size]
 rw[<-hS]at z0;obtain⟨c,a7⟩:∃c,grownCap w S.size 0 f=c:=⟨_,rfl⟩;refine wpIn_seq (fO (λa w h=>lU a w h) hr.seq1 ?_);refine bN A1.2.2 (v:=.string S) (w':=w) (by simp[execOp,A1.1,z0]) ?_;rw[A1.2.1];have a8:=Lib.run_convert_string_bytes (P:=P) w ts Y f S us ub ue;rw[a7]at a8;refine bN A2.2.2 (v:=.slice (some ⟨w.heap.size,0,none⟩) S.size c) (w':=Lib.bytesWorld w f S) (by simp[execOp,A2.1,cD,hN,a8]) ?_;rw[A2.2.1];refine bN A3.2.2 (v:=.slice (some ⟨w.heap.size,0,none⟩) S.size c) (w':=Lib.bytesWorld w f S) (by simp[execOp,A3.1,cD,cF,hN]) ?_;rw[A3.2.1];have Z:=Lib.bytesWorld_at_new w f S;have b6:=Lib.bytesWorld_size w f S;have D:=Lib.bytesWorld_at_old w f S;have U:Bz w.heap.size w (Lib.bytesWorld w f S):=by
  refine⟨?_,?_,?_,aE,λj l=>D j l,?_⟩<;>(unfold Lib.bytesWorld World.freeze;split<;>first|rfl|exact J1 w.drawn)
 have A:∀j (l:j<s.length),(Lib.bytesCells w f S)[j]? =some (.int .u8 ((s[j]:UInt8).toNat:Nat)):=λj l=>by
  have c8:j<S.data.size:=by have:S.data.size=S.size:=rfl;omega
  unfold Lib.bytesCells;rw[H5 (by simpa using c8)];simp[hS,l]
 have a5:s.length<=(Lib.bytesCells w f S).size:=by unfold Lib.bytesCells;rw[H9,L4];have:S.data.size=S.size:=rfl;omega
 generalize Lib.bytesCells w f S=C at Z A a5;generalize Lib.bytesWorld w f S=w1 at Z b6 D U|-;show Code.wpIn (RF r) 0 P _ _ _ _;refine wpIn_seq (wpIn_seq (fO (λa w h=>lU a w h) hr.seq2.seq1.seq1 ?_));refine bN B1.2.2 (v:=.int .i64 0) (w':=w1) (by simp[execOp,B1.1,show∀a:Act,∀v,a.eval (.const v)=v from λ_ _=>rfl]) ?_;rw[B1.2.1];show Code.wpIn (RF r) 0 P _ _ _ _;have N:=hr.seq2.seq1.seq2.block.loop;refine wpIn_block (xP (λn G z=>∃k,n=s.length-k/\k<=s.length/\Sg s i k k w.heap.size c f w a.defers G z) s.length ⟨0,rfl,J0 _,⟨?_,?_,?_,?_,?_,⟨C,Z,a5,λj l=>by rw[if_neg (L1 _)];exact A j l⟩,U⟩⟩ ?_)
 .simp[cF,hN]
 .simp[lW]
 .simp[cD,z1]
 .simp[cD,cF,hN,c0]
 .simp[cD,cF,hN]
 rintro n b g ⟨k,rfl,hk,J⟩;obtain⟨V,jd,j1,j5,j6,⟨o,jb,jC,jc⟩,d⟩:=J;refine wpIn_seq (wpIn_seq (fO (λa w h=>lU a w h) N.seq1.seq1 ?_));refine bN C1.2.2 (v:=.int .i64 k) (w':=g) (by simp[execOp,C1.1,j6]) ?_;rw[C1.2.1];refine bN C2.2.2 (v:=.slice (some ⟨w.heap.size,0,none⟩) s.length c) (w':=g) (by simp[execOp,C2.1,cD,j5]) ?_;rw[C2.2.1];refine bN C3.2.2 (v:=.int .i64 s.length) (w':=g) (by simp[execOp,C3.1,resolve,invoke,builtin,cD,cF,V,jU ub]) ?_;rw[C3.2.1];refine vO C4.2.2 C4.1 (k:=.i64) (m:=k) (n:=s.length) (by simp[cD,cF,V]) (by simp[cD,cF,V]) (XC _) ?_;rw[C4.2.1];show Code.wpIn (RF r) 0 P _ _ _ _;refine wpIn_cond (by simp[cD,cF,V]:Act.eval _ _=.bool (decide ((k:Int)<(s.length:Int)))) ?_;by_cases M:k<s.length
 .rw[decide_eq_true aE];refine wpIn_skip ?_;show Code.wpIn (RF r) 0 P _ _ _ _;obtain⟨b2,L⟩:∃b2,(((b.put (some 9) (.int .i64 k)).put (some 10) (.slice (some ⟨w.heap.size,0,none⟩) s.length c)).put (some 11) (.int .i64 s.length)).put (some 12) (.bool (decide ((k:Int)<(s.length:Int))))=b2:=⟨_,rfl⟩;have j2:Sg s i k k w.heap.size c f w a.defers b2 g:=by
   rw[<-L];exact⟨by simp[cF,V],by simp[lW,jd],by simp[cD,j1],by simp[cD,j5],by simp[cD,j6],⟨o,jb,jC,jc⟩,d⟩
  rw[decide_eq_true (show(k:Int)<(s.length:Int)by omega)]at L;rw[L];clear L;obtain⟨F,d7,d6,b7,b8, -, -⟩:=j2;have W:∀b' z,Sg s i (k+1) k w.heap.size c f w a.defers b' z->(Code.region i4 [f1,f2,f3].toArray false).wpIn (RF r) 0 P (Exit.then (λG z=>∃m,m<s.length-k/\∃k,m=s.length-k/\k<=s.length/\Sg s i k k w.heap.size c f w a.defers G z) (Exit.inBlock 0 (Exit.then (λG z=>Code.wpIn (RF r) 0 P (.seq (.region i7 [g1,g2,g3].toArray false) .ret) (λe G z=>∃x p H' β',iB e x/\nD 28 w0 X p H' β' G z/\Q x p H') G z) (λe G z=>∃x p H' β',iB e x/\nD 28 w0 X p H' β' G z/\Q x p H')))) b' z:=by
   rintro b' z ⟨t1,t2,t3,t4,t5,t6,t7⟩;refine fO (λa w h=>lU a w h) N.seq2.seq2 ?_;refine bN F1.2.2 (v:=.int .i64 k) (w':=z) (by simp[execOp,F1.1,t5]) ?_;rw[F1.2.1];refine vO F2.2.2 F2.1 (k:=.i64) (m:=k) (n:=1) (by simp[cD,cF,t1]) rfl (LR _ aE) ?_;rw[F2.2.1];refine bN F3.2.2 (v:=.int .i64 (k+1)) (w':=z) (by simp[execOp,F3.1,cD,cF,t1]) ?_;rw[F3.2.1];show∃m,_;exact⟨s.length-(k+1),aE,k+1,rfl,M,⟨by simp[cF,t1],by simp[lW,t2],by simp[cD,t3],by simp[cD,t4],by simp[cD,cF,t1],t6,t7⟩⟩
  refine wpIn_seq (wpIn_block (wpIn_seq (fO (λa w h=>lU a w h) N.seq2.seq1.block.seq1 ?_)));refine bN D1.2.2 (v:=.slice (some ⟨w.heap.size,0,none⟩) s.length c) (w':=g) (by simp[execOp,D1.1,b7]) ?_;rw[D1.2.1];refine bN D2.2.2 (v:=.int .i64 k) (w':=g) (by simp[execOp,D2.1,cD,b8]) ?_;rw[D2.2.1];refine bN D3.2.2 (v:=.pointer (some ⟨w.heap.size,k,none⟩)) (w':=g) (by simp[execOp,D3.1,cD,cF,F,Instr.indexAt,asIntOf,run_underlying ub,a0,M,XB]) ?_;rw[D3.2.1];obtain⟨x,hx⟩:∃x,s[k]=x:=⟨_,rfl⟩;have a4:=jc k M;rw[if_neg (Nat.lt_irrefl k),hx]at a4;have b0:=xH (P:=P) (w:=g) hT n1 (b:=w.heap.size) (off:=k) (us:=[.int .u8 (x.toNat:Nat)]) (by simp[n2]) (λ_=>n2) (λj u l=>by
   cases j with
   |zero=>
    have l:some (Value.int .u8 (x.toNat:Nat))=some u:=l;rw[<-l];show g.cell? ⟨w.heap.size,k,none⟩=_;simp only[World.cell?,jb];exact a4
   |succ j=>cases j<;>cases l)
  rw[n3]at b0;refine bN D4.2.2 (v:=.int .u8 (x.toNat:Nat)) (w':=g) (by
   simp only[execOp,D4.1,Instr.loadAt,Instr.sureAddr,cD,cF,F,Sem.run_bind,Sem.run_pure,Result.andThen_ok];simp[b0]) ?_
  rw[D4.2.1];refine vO D5.2.2 D5.1 (k:=.u8) (m:=(x.toNat:Nat)) (n:=35) (by simp[cD,cF,F]) rfl (XD _) ?_;rw[D5.2.1];show Code.wpIn (RF r) 0 P _ _ _ _;obtain⟨q,hq⟩:∃q,decide (((x.toNat:Nat):Int)=35)=q:=⟨_,rfl⟩;rw[hq];obtain⟨O,y⟩:∃O,((((b2.put (some 15) (.slice (some ⟨w.heap.size,0,none⟩) s.length c)).put (some 16) (.int .i64 k)).put (some 17) (.pointer (some ⟨w.heap.size,k,none⟩))).put (some 18) (.int .u8 (x.toNat:Nat))).put (some 19) (.bool q)=O:=⟨_,rfl⟩;have kN:O.tmps.size=28:=by rw[<-y];simp[cF,F]
  have kd:O.defers=a.defers:=by rw[<-y];simp[lW,d7]
  have k1:O.eval (.tmp 1)=.int .i64 i:=by rw[<-y];simp[cD,d6]
  have k5:O.eval (.tmp 5)=.slice (some ⟨w.heap.size,0,none⟩) s.length c:=by rw[<-y];simp[cD,b7]
  have k6:O.eval (.tmp 6)=.int .i64 k:=by rw[<-y];simp[cD,b8]
  have d8:O.eval (.tmp 19)=.bool q:=by rw[<-y];simp[cD,cF,F]
  rw[y];clear y;refine wpIn_cond d8 ?_;cases q with
  |true=>
   have E:x=35:=by
    have:x.toNat=35:=by have:=of_decide_eq_true hq;omega
    exact UInt8.toNat_inj.1 (by rw[this];rfl)
   refine fO (λa w h=>lU a w h) N.seq2.seq1.block.seq2.cond1 ?_;refine bN E1.2.2 (v:=.slice (some ⟨w.heap.size,0,none⟩) s.length c) (w':=g) (by simp[execOp,E1.1,k5]) ?_;rw[E1.2.1];refine bN E2.2.2 (v:=.int .i64 k) (w':=g) (by simp[execOp,E2.1,cD,k6]) ?_;rw[E2.2.1];refine bN E3.2.2 (v:=.int .i64 i) (w':=g) (by simp[execOp,E3.1,cD,k1]) ?_;rw[E3.2.1];refine vO E4.2.2 E4.1 (k:=.i64) (m:=48) (n:=i) rfl (by simp[cD,cF,kN]) (LR _ aE) ?_;rw[E4.2.1];refine bN E5.2.2 (v:=.int .u8 (IntKind.u8.wrap (48+i))) (w':=g) (by simp[execOp,E5.1,cD,cF,kN,convert,run_underlying ui,run_underlying ue,Conv.intToInt]) ?_;rw[E5.2.1];refine bN E6.2.2 (v:=.pointer (some ⟨w.heap.size,k,none⟩)) (w':=g) (by simp[execOp,E6.1,cD,cF,kN,Instr.indexAt,asIntOf,run_underlying ub,a0,M,XB]) ?_;rw[E6.2.1];have b5:=AM (P:=P) (w:=g) a0 (n:=IntKind.u8.wrap (48+i)) jb (show k<o.size by omega) (A4 _);obtain⟨B,I⟩:∃B,o.setIfInBounds k (.int .u8 (IntKind.u8.wrap (48+i)))=B:=⟨_,rfl⟩;rw[I]at b5;refine DR E7.2.2 (w':=g.setRow w.heap.size B) (by simp[execOp,E7.1,cD,cF,kN,Instr.storeAt,Instr.sureAddr,b5]) ?_;rw[E7.2.1,Sf];refine W _ _ ⟨by simp[cF,kN],by simp[lW,kd],by simp[cD,k1],by simp[cD,k5],by simp[cD,k6],⟨B,?_,?_,λj l=>?_⟩,?_⟩
   .have:=setRow_heap g w.heap.size o B f (o.size,o.size+1) jb;have d0:B.size=o.size:=by rw[<-I];simp
    rw[d0];exact this
   .rw[<-I];simpa using jC
   .rw[<-I,F4];by_cases e:k=j
    .subst e;rw[if_pos rfl,if_pos aE,if_pos (K3 _),hx,E];have:LQ i 35=B7 (48+i):=rfl;rw[this,J8];have h2:IntKind.u8.wrap (48+(i:Int))=(((48+i)%256:Nat):Int):=by
      unfold IntKind.wrap;simp[IntKind.bits,IntKind.signed]
     rw[h2]
    .rw[if_neg e,jc j l];by_cases h:j<k
     .rw[if_pos h,if_pos aE]
     .rw[if_neg h,if_neg aE]
   .refine⟨d.os,d.tape,d.output,?_,λj l=>?_,d.drawn⟩
    .have:=d.size;simp[World.setRow];omega
    .rw[setRow_other _ _ _ _ aE];exact d.block j l
  |false=>
   have E:x≠35:=by
    rintro rfl;simp at hq
   refine wpIn_skip ?_;refine W _ _ ⟨kN,kd,k1,k5,k6,⟨o,jb,jC,λj l=>?_⟩,d⟩;by_cases e:k=j
   .subst e;rw[if_pos (K3 _),hx,a4];have:LQ i x=x:=by unfold LQ;rw[if_neg E]
    rw[this]
   .rw[jc j l];by_cases h:j<k
    .rw[if_pos h,if_pos aE]
    .rw[if_neg h,if_neg aE]
 .rw[decide_eq_false aE];have c9:k=s.length:=aE;subst c9;refine wpIn_exit ?_;show Code.wpIn (RF r) 0 P _ _ _ _;refine wpIn_seq (fO (λa w h=>lU a w h) hr.seq2.seq2.seq1 ?_);refine bN G1.2.2 (v:=.slice (some ⟨w.heap.size,0,none⟩) s.length c) (w':=g) (by simp[execOp,G1.1,cD,j5]) ?_;rw[G1.2.1];have a6:=run_convert_bytes_back (P:=P) g Y ts f ⟨w.heap.size,0,none⟩ c (mO s i) ub ue us (λj l=>by
   have a9:j<s.length:=by simpa [mO]using l
   rw[XB];simp only[World.cell?,jb];rw[jc j a9,if_pos a9];simp[mO])
  have c7:(mO s i).length=s.length:=by simp[mO]
  rw[c7]at a6;refine bN G2.2.2 (v:=.string ⟨(mO s i).toArray⟩) (w':=g) (by simp[execOp,G2.1,cD,cF,V,a6]) ?_;rw[G2.2.1];refine bN G3.2.2 (v:=.string ⟨(mO s i).toArray⟩) (w':=g) (by simp[execOp,G3.1,cD,cF,V]) ?_;rw[G3.2.1];show Code.wpIn (RF r) 0 P _ _ _ _;have b9:∀b4:Act,b4.tmps.size=28->b4.defers=a.defers->nD 28 w0 X (λt=>if t=4 then .d (.str (mO s i))else .junk) H β (b4.put (some 4) (.string ⟨(mO s i).toArray⟩)) g:=by
   intro b4 c5 c6;obtain⟨m',g'⟩:=sm.mem.grow d;refine⟨?_,?_,m'.ext,m'.xold,m'.fresh,m'.inj,λt=>?_,m'.obj,m'.pin⟩
   .rw[lW,c6];exact g'.marks sm.defers
   .simp[cF,c5]
   .show R g _ β H _ ((b4.put (some 4) _).eval (.tmp t));rw[cD];by_cases e:t=4
    .subst e;rw[if_pos rfl,if_pos (And.intro rfl aE)];exact zW _
    .rw[if_neg e];exact .junk _
  exact wpIn_ret ⟨.ret,_,H,β,trivial,b9 _ (by simp[cF,V]) (by simp[lW,jd]),K⟩
end
end
section
open Go.RowKit Go.Maps
open Go.ChangeMaps (setBlock)
theorem BP:∀(l:List MapEntry) (j:Nat) (d:j<l.length),(l.map (·.born)).Nodup->l.filter (λx=>decide (x.born≠l[j].born))=l.eraseIdx j
 |a::l,0,_,h=>by
  have c:=(H0.1 h).1;rw[List.getElem_cons_zero,List.eraseIdx_cons_zero,List.filter_cons_of_neg bC];rw[List.filter_eq_self];intro x f;simp only[ne_eq,decide_eq_true_eq];intro e;exact c (B9.2 ⟨x,f,e⟩)
 |a::l,j+1,d,h=>by
  have b:j<l.length:=by simpa using d
  have c:=(H0.1 h).1;rw[List.getElem_cons_succ,List.eraseIdx_cons_succ,List.filter_cons_of_pos,BP l j b (H0.1 h).2];simp only[ne_eq,decide_eq_true_eq];intro e;exact c (B9.2 ⟨l[j],K4 b,e.symm⟩)
theorem TY(b:Array MapEntry)(a:Array Nat)(n:Nat):(b.filter λx=> !(a.push n).contains x.born).toList=(b.filter λx=> !a.contains x.born).toList.filter λx=>decide (x.born≠n):=by
 rw[F7,F7,List.filter_filter];congr 1;funext x;simp[Bool.and_comm]
theorem XE{b:Array MapEntry}{a:Nat}(h:gO b a):(b.toList.map (·.born)).Nodup:=by
 rw[List.Nodup,List.pairwise_map,List.pairwise_iff_getElem];intro i j d f c e;have:=h.2 i j _ _ bC bC e;omega
section
variable{P:Program} {T:TypeId->cX} {N:Nat} {w0:dH} {X:Nat->Prop} {Q:LX->eO->dQ->Prop} {env:eO} {H:dQ}
theorem JM{r9 d0 bx b1 it E F d3 d4 d5 id:Nat}{o1 o2 p1 p2 p3:Oper}{U:Code}{ks vs:List DV}
 (z:o1.op=.next (.tmp it) false)(e1:o1.dst=some E)(g1:o1.guard=none)(t:o2.op=.extract (.tmp E) 0)(e2:o2.dst=some F)(g2:o2.guard=none)
 (k1:p1.op=.entry (.tmp it))(f1:p1.dst=some d3)(i1:p1.guard=none)(k2:p2.op=.extract (.tmp d3) 0)(f2:p2.dst=some d4)(i2:p2.guard=none)
 (k3:p3.op=.assign (.tmp d4))(f3:p3.dst=some d5)(i3:p3.guard=none)
 (u:E<N/\F<N/\d3<N/\d4<N/\d5<N)(K:it≠E/\it≠F)(hv:env it=.it id)(hH:H id=.iter false ks vs)
 (Y:ks=[]->Q (.exit bx) (cK (cK env E .junk) F .junk) H)
 (Z:∀(j:Nat) (hj:j<ks.length),fL P N w0 X U (xO b1 Q) (cK (cK (cK (cK (cK env E .junk) F .junk) d3 .junk) d4 .junk) d5 (.d ks[j])) (cK H id (.iter false (ks.eraseIdx j) (vs.eraseIdx j)))):
 fL P N w0 X (.seq (.region r9 [o1,o2].toArray false) (.seq (.cond (.tmp F) .skip (.exit bx)) (.block b1 (.seq (.region d0 [p1,p2,p3].toArray false) U)))) Q env H:=by
 intro r hr β a w s;have hz:a.tmps.size=N:=s.size;have a5:=s.obj id;unfold dT at a5;rw[hH]at a5;obtain⟨b,C,l,b8,g,c,hb,A,a4,c1,D,n,a3,c7,d7,M,b7⟩:=a5;subst a3;have a1:a.eval (.tmp it)=.pointer (some ⟨b,0,none⟩):=by
  have h:=s.get (.tmp it);rw[show lC env (.tmp it)=env it from rfl,hv]at h;generalize a.eval (.tmp it)=v at h;cases h with
  |it _ b' fz ks' vs' hH' hb'=>rw[hb]at hb';injection hb' with e;subst e;rfl
  |itdead _ _ hH'=>rw[hH]at hH';cases hH'
 have b2:C≠b:=λe=>by subst e;rw[A]at D;cases D
 have b5:∀x∈l.toList,x.born<c:=λx hx=>by
  obtain⟨i,hi,c4⟩:=E0 hx;exact n.1 i x (by rw[<-c4];simp)
 have ok:∀d,d<N->DJ N (some d):=λd h=>h;refine wpIn_seq (fO (λa w h=>lU a w h) hr.seq1 ?_);rcases run_next_at (P:=P) w o1.type b C c c g l c A D b5 (A4 _)with⟨h0,B⟩|⟨e,he,V,c0,B⟩
 .refine bN g1 (v:=.tuple #[.bool false]) (w':=w) (by simp[execOp,z,a1,B]) ?_;rw[e1];refine bN g2 (v:=.bool false) (w':=w) (by simp[execOp,t,cD,hz,u.1,Instr.extract]) ?_;rw[e2];have t1:=s.put s.mem fG.refl (.junk (.tuple #[.bool false])) (ok E u.1);have t2:=t1.put s.mem fG.refl (.junk (.bool false)) (ok F u.2.1);show Code.wpIn (RF r) 0 P _ _ _ _;refine wpIn_seq (wpIn_cond_false (by simp[cD,cF,hz,u.2.1]) (wpIn_exit ?_));refine⟨.exit bx,_,_,β,rfl,t2,Y (A7 ?_)⟩;rw[c7];exact h0
 .refine bN g1 (v:=.tuple #[.bool true,e.key,e.val]) (w':=setBlock V b (.mapIter (some C) c (g.push e.born) c)) (by simp[execOp,z,a1,B]) ?_;rw[e1];refine bN g2 (v:=.bool true) (w':=setBlock V b (.mapIter (some C) c (g.push e.born) c)) (by simp[execOp,t,cD,hz,u.1,Instr.extract]) ?_;rw[e2];obtain⟨y,o⟩:∃y,setBlock V b (.mapIter (some C) c (g.push e.born) c)=y:=⟨_,rfl⟩;rw[o];obtain⟨c8,a6,b6,c2,p⟩:V.os=w.os/\V.tape=w.tape/\V.output=w.output/\w.drawn<=V.drawn/\V.heap=w.heap:=by
   rcases c0 with rfl|rfl
   .exact⟨rfl,rfl,rfl,A4 _,rfl⟩
   .exact⟨rfl,rfl,rfl,J1 _,rfl⟩
  have b0:b<w.heap.size:=(A0.1 A).1;have O:y.heap[b]? =some (.mapIter (some C) c (g.push e.born) c):=by
   rw[<-o];simp[setBlock,p,b0]
  have S:∀k,k≠b->y.heap[k]? =w.heap[k]? :=λk hk=>by
   rw[<-o];simp only[setBlock,p];exact G5 (λe=>hk e.symm)
  have c9:y.heap.size=w.heap.size:=by rw[<-o];simp[setBlock,p]
  have J:y.heap[C]? =some (.map l c):=(S C b2).trans D;obtain⟨L,G⟩:∃L,(l.filter λx=> !g.contains x.born).toList=L:=⟨_,rfl⟩;have a0:e∈L:=by rw[<-G];exact he
  have c3:e∈l.toList:=by
   rw[<-G,F7]at a0;exact(List.mem_filter.1 a0).1
  have b3:=run_entry_at (P:=P) y b C c g l c e O J c3 (XE n);obtain⟨j,hj,b4⟩:=E0 a0;have d6:(l.filter λx=> !g.contains x.born).size=L.length:=by rw[<-G,F6]
  have b9:(L.map (·.born)).Nodup:=by
   rw[<-G,F7];exact List.Nodup.sublist (List.Sublist.map _ List.filter_sublist) (XE n)
  have a8:(l.filter λx=> !(g.push e.born).contains x.born).toList=L.eraseIdx j:=by
   rw[TY,G,<-b4,BP L j hj b9]
  have I:(l.filter λx=> !(g.push e.born).contains x.born).size=(L.eraseIdx j).length:=by rw[<-a8,F6]
  have a2:j<ks.length:=aE;have c5:j<vs.length:=aE;have a9:∀(f:MapEntry->Value) (ds:List DV),(∀(i:Nat) (d:DV) (x:MapEntry),ds[i]? =some d->(l.filter λx=> !g.contains x.born)[i]? =some x->RD w (Ex X β H) d (f x))->
   ∀(i:Nat) (d:DV) (x:MapEntry),(ds.eraseIdx j)[i]? =some d->(l.filter λx=> !(g.push e.born).contains x.born)[i]? =some x->RD w (Ex X β H) d (f x):=λf ds h i d x K hx=>by
   rw[<-D6,a8,I5]at hx;rw[I5]at K;split at hx
   .rename_i q;rw[if_pos q]at K;exact h i d x K (by rw[<-D6,G];exact hx)
   .rename_i q;rw[if_neg q]at K;exact h (i+1) d x K (by rw[<-D6,G];exact hx)
  obtain⟨m2,a7⟩:=s.mem.rewriteG (id:=id) (b:=b) (o':=.iter false (ks.eraseIdx j) (vs.eraseIdx j)) (w':=y) (by rw[hH];rfl) hb (by rw[<-o];exact c8) (by rw[<-o];exact a6) (by rw[<-o];exact b6) (by rw[<-o];exact c2) c9 S
   (by unfold bW;rw[hH,bB];exact .inr ⟨⟨false,_,_,rfl⟩,rfl⟩) (λhD _=>by
     unfold dT;rw[bB];refine⟨b,C,l,c,g.push e.born,c,hb,O,?_,aE,J,n,rfl,?_,?_,λi d x z t=>hD _ _ (a9 (·.key) ks M i d x z t),λi d x z t=>hD _ _ (a9 (·.val) vs b7 i d x z t)⟩
     .rintro(h|⟨i,z,t⟩)
      .exact a4 (.inl h)
      .by_cases hi:i=id
       .subst hi;exact a4 (.inr ⟨i,by rw[hH];rfl,t⟩)
       .rw[cJ _ _ hi]at z;exact a4 (.inr ⟨i,z,t⟩)
     .rw[I,D0 hj,D0 a2];omega
     .rw[I,D0 hj,D0 c5];omega)
  have c6:RD y (Ex X β (cK H id (.iter false (ks.eraseIdx j) (vs.eraseIdx j)))) ks[j] e.key:=a7.D (M j _ e (A5 a2) (by rw[<-D6,G,A5 hj,b4]));have t1:=s.put m2 a7 (.junk (.tuple #[.bool true,e.key,e.val])) (ok E u.1);have t2:=t1.put m2 fG.refl (.junk (.bool true)) (ok F u.2.1);have t3:=t2.put m2 fG.refl (.junk (.tuple #[e.key,e.val])) (ok d3 u.2.2.1);have t4:=t3.put m2 fG.refl (.junk e.key) (ok d4 u.2.2.2.1);have t5:=t4.put m2 fG.refl (.d _ _ c6) (ok d5 u.2.2.2.2);show Code.wpIn (RF r) 0 P _ _ _ _;refine wpIn_seq (wpIn_cond_true (by simp[cD,cF,hz,u.2.1]) (wpIn_skip ?_));show Code.wpIn (RF r) 0 P _ _ _ _;refine wpIn_block (wpIn_mono (Q:=λe a' w'=>∃x m W β',iB e x/\nD N w0 X m W β' a' w'/\xO b1 Q x m W) (wpIn_seq (fO (λa w h=>lU a w h) hr.seq2.seq2.block.seq1 ?_)) ?_)
  .refine bN i1 (v:=.tuple #[e.key,e.val]) (w':=y) (by simp[execOp,k1,cD,cF,hz,K.1,K.2,a1,b3]) ?_;rw[f1];refine bN i2 (v:=e.key) (w':=y) (by simp[execOp,k2,cD,cF,hz,u.2.2.1,Instr.extract]) ?_;rw[f2];refine bN i3 (v:=e.key) (w':=y) (by simp[execOp,k3,cD,cF,hz,u.2.2.2.1]) ?_;rw[f3];exact Z j a2 r hr.seq2.seq2.block.seq2 β _ y t5
  .rintro e a' w' ⟨lx,m,W,β',z,t,h3⟩;cases e<;>cases lx<;>simp only[iB]at z
   .exact⟨.normal,m,W,β',trivial,t,h3⟩
   .subst z;simp only[Exit.inBlock,xO]at h3|-;split at h3
    .rename_i he;rw[if_pos he];exact⟨.normal,m,W,β',trivial,t,h3⟩
    .rename_i he;rw[if_neg he];exact⟨.exit _,m,W,β',rfl,t,h3⟩
   .exact⟨.ret,m,W,β',trivial,t,h3⟩
end
end
def eP(x:BitVec 32):DV:=.int .u32 (x.toNat:Int)
theorem aCT(n:Int):IntKind.u32.wrap n=n%4294967296:=by
 unfold IntKind.wrap;simp[IntKind.bits,IntKind.signed]
theorem vP(n:Nat):IntKind.u32.wrap (n:Int)=((n%4294967296:Nat):Int):=by rw[aCT];omega
theorem uA(x:BitVec 32):IntKind.u32.wrap (x.toNat:Int)=(x.toNat:Int):=by
 rw[vP];have:=x.isLt;omega
theorem aDL(x y:BitVec 32):IntKind.u32.wrap ((x.toNat:Int)+(y.toNat:Int))=((x+y).toNat:Int):=by
 rw[K5,show(x.toNat:Int)+(y.toNat:Int)=((x.toNat+y.toNat:Nat):Int)by omega,vP]
theorem LS(x:BitVec 32):B5 32 (x.toNat:Int)=x:=by
 apply BitVec.eq_of_toNat_eq;rw[BitVec.toNat_ofInt];have:=x.isLt;omega
theorem aDM(x y:BitVec 32):IntKind.u32.wrap ((B5 32 (x.toNat:Int)&&&B5 32 (y.toNat:Int)).toNat:Int)=((x&&&y).toNat:Int):=by rw[LS,LS,uA]
theorem aEG(x y:BitVec 32):IntKind.u32.wrap ((B5 32 (x.toNat:Int)|||B5 32 (y.toNat:Int)).toNat:Int)=((x|||y).toNat:Int):=by rw[LS,LS,uA]
theorem aDN(x y:BitVec 32):IntKind.u32.wrap ((B5 32 (x.toNat:Int)^^^B5 32 (y.toNat:Int)).toNat:Int)=((x^^^y).toNat:Int):=by rw[LS,LS,uA]
theorem aDO(x:BitVec 32):IntKind.u32.wrap ((B5 32 IntKind.u32.max^^^B5 32 (x.toNat:Int)).toNat:Int)=((~~~x).toNat:Int):=by
 have e:B5 32 IntKind.u32.max=L5 32:=bF;rw[e,LS,BitVec.allOnes_xor,uA]
theorem aCU(x:BitVec 32):IntKind.u32.wrap ((B5 32 (x.toNat:Int)^^^B5 32 4294967295).toNat:Int)=((~~~x).toNat:Int):=by
 have e:B5 32 4294967295=L5 32:=bF;rw[e,LS,BitVec.xor_allOnes,uA]
theorem aCl(x:BitVec 32)(k:Nat)(a:k<=32):IntKind.u32.wrap ((x.toNat:Int)*2^k)=((x<<<k).toNat:Int):=by
 rw[BitVec.toNat_shiftLeft,Nat.shiftLeft_eq,show(x.toNat:Int)*2^k=((x.toNat*2^k:Nat):Int)by simp,vP]
theorem aCm(x:BitVec 32)(k:Nat):(x.toNat:Int).fdiv (2^k)=((x>>>k).toNat:Int):=by
 rw[BitVec.toNat_ushiftRight,Nat.shiftRight_eq_div_pow,show(2:Int)^k=((2^k:Nat):Int)by simp,Int.fdiv_eq_ediv_of_nonneg _ (Int.natCast_nonneg _),Int.natCast_ediv]
def LT(b:UInt8):BitVec 32:=BitVec.ofNat 32 b.toNat
theorem aCV(b:UInt8):IntKind.u32.wrap (b.toNat:Int)=((LT b).toNat:Int):=by
 rw[vP];unfold LT;rw[BitVec.toNat_ofNat]
theorem aDP(x:BitVec 32):IntKind.u8.wrap (x.toNat:Int)=((B7 x.toNat).toNat:Int):=by
 unfold IntKind.wrap;simp[IntKind.bits,IntKind.signed,UInt8.toNat_ofNat]
def AN(x:BitVec 32)(k:Nat):BitVec 32:=x>>>k|||x<<<(32-k)
theorem XF(x:BitVec 32)(k:Nat):x<<<(32-k)|||x>>>k=AN x k:=BitVec.or_comm _ _
structure H8 where
 (a b c d e f g h:BitVec 32)
def KS:List (BitVec 32):=[
 0x428a2f98,0x71374491,0xb5c0fbcf,0xe9b5dba5,0x3956c25b,0x59f111f1,0x923f82a4,0xab1c5ed5,
 0xd807aa98,0x12835b01,0x243185be,0x550c7dc3,0x72be5d74,0x80deb1fe,0x9bdc06a7,0xc19bf174,
 0xe49b69c1,0xefbe4786,0x0fc19dc6,0x240ca1cc,0x2de92c6f,0x4a7484aa,0x5cb0a9dc,0x76f988da,
 0x983e5152,0xa831c66d,0xb00327c8,0xbf597fc7,0xc6e00bf3,0xd5a79147,0x06ca6351,0x14292967,
 0x27b70a85,0x2e1b2138,0x4d2c6dfc,0x53380d13,0x650a7354,0x766a0abb,0x81c2c92e,0x92722c85,
 0xa2bfe8a1,0xa81a664b,0xc24b8b70,0xc76c51a3,0xd192e819,0xd6990624,0xf40e3585,0x106aa070,
 0x19a4c116,0x1e376c08,0x2748774c,0x34b0bcb5,0x391c0cb3,0x4ed8aa4a,0x5b9cca4f,0x682e6ff3,
 0x748f82ee,0x78a5636f,0x84c87814,0x8cc70208,0x90befffa,0xa4506ceb,0xbef9a3f7,0xc67178f2]
def aA0(x:BitVec 32):BitVec 32:=AN x 7^^^AN x 18^^^x>>>3
def aA1(x:BitVec 32):BitVec 32:=AN x 17^^^AN x 19^^^x>>>10
def LU(x:BitVec 32)(i j k:Nat):BitVec 32:=AN x i^^^AN x j^^^AN x k
def XG(s:H8)(k w:BitVec 32):H8:=
 ⟨s.h+LU s.e 6 11 25+((s.e&&&s.f)^^^(~~~s.e&&&s.g))+k+w+(LU s.a 2 13 22+((s.a&&&s.b)^^^(s.a&&&s.c)^^^(s.b&&&s.c))),s.a,s.b,s.c,
  s.d+(s.h+LU s.e 6 11 25+((s.e&&&s.f)^^^(~~~s.e&&&s.g))+k+w),s.e,s.f,s.g⟩
def wd(ws:List (BitVec 32))(t:Nat):BitVec 32:=ws.getD t 0
def JN(b:List UInt8)(t:Nat):BitVec 32:=LT (b.getD (4*t) 0)<<<24|||LT (b.getD (4*t+1) 0)<<<16|||LT (b.getD (4*t+2) 0)<<<8|||LT (b.getD (4*t+3) 0)
def dZ(b:List UInt8):Nat->List (BitVec 32)
 |0=>[]
 |t+1=>dZ b t++[if t<16 then JN b t else wd (dZ b t) (t-16)+aA0 (wd (dZ b t) (t-15))+wd (dZ b t) (t-7)+aA1 (wd (dZ b t) (t-2))]
theorem fY(b:List UInt8):∀t,(dZ b t).length=t
 |0=>rfl
 |t+1=>by simp[dZ,fY b t]
theorem TZ(p q r s:UInt8):(((0<<<8|||LT p)<<<8|||LT q)<<<8|||LT r)<<<8|||LT s=LT p<<<24|||LT q<<<16|||LT r<<<8|||LT s:=by
 simp[BitVec.shiftLeft_or_distrib,<-BitVec.shiftLeft_add]
def sH(s:H8)(ks ws:List (BitVec 32)):Nat->H8
 |0=>s
 |t+1=>XG (sH s ks ws t) (ks.getD t 0) (wd ws t)
def H8.add(s r:H8):H8:=⟨s.a+r.a,s.b+r.b,s.c+r.c,s.d+r.d,s.e+r.e,s.f+r.f,s.g+r.g,s.h+r.h⟩
def comp(s:H8)(b:List UInt8):H8:=s.add (sH s KS (dZ b 64) 64)
def vQ(s:H8)(m:List UInt8):Nat->H8
 |0=>s
 |n+1=>comp (vQ s m n) ((m.drop (64*n)).take 64)
theorem JO(s:H8)(m x:List UInt8):∀n,64*n<=m.length->vQ s (m++x) n=vQ s m n
 |0,_=>rfl
 |n+1,h=>by
  rw[vQ,vQ,JO s m x n aE,E9 aE,C5 (by rw[C9];omega)]
structure iD where
 (s:H8)(B:List UInt8)(n:Nat)
def gT(st:iD)(x:List UInt8):Nat:=min x.length (64-st.n%64)
def wT(st:iD)(x:List UInt8):iD:=
 ⟨if st.n%64+gT st x=64 then comp st.s (bE (st.n%64) st.B (x.take (64-st.n%64)))else st.s,bE (st.n%64) st.B (x.take (64-st.n%64)),st.n+gT st x⟩
def Ez:Nat->iD->List UInt8->iD
 |0,st,_=>st
 |f+1,st,x=>if x=[]then st else Ez f (wT st x) (x.drop (gT st x))
def iv:H8:=⟨0x6a09e667,0xbb67ae85,0x3c6ef372,0xa54ff53a,0x510e527f,0x9b05688c,0x1f83d9ab,0x5be0cd19⟩
def yB(m:List UInt8)(st:iD):Prop:=st.B.length=64/\st.n=m.length/\st.s=vQ iv m (m.length / 64)/\st.B.take (m.length%64)=m.drop (64*(m.length / 64))
def vR:iD:=⟨iv,B4 64 0,0⟩
theorem LW:yB [] vR:=⟨rfl,rfl,rfl,rfl⟩
theorem yB.step{m:List UInt8}{st:iD}(h:yB m st)(x:List UInt8):yB (m++x.take (gT st x)) (wT st x):=by
 obtain⟨v,g,i,k⟩:=h;obtain⟨r,e⟩:∃r,r=m.length%64:=⟨_,rfl⟩;obtain⟨q,n⟩:∃q,q=m.length / 64:=⟨_,rfl⟩;have t:m.length=64*q+r:=aE;have o:r<64:=aE;rw[<-e,<-n]at k;rw[<-n]at i;have p:x.take (64-r)=x.take (gT st x):=by
  unfold gT;rw[g,<-e,List.take_eq_take_iff];omega
 have l:gT st x=(x.take (gT st x)).length:=by rw[C8];unfold gT;omega
 have j:r+gT st x<=64:=by unfold gT;rw[g,<-e];omega
 unfold wT;rw[g,<-e,p];obtain⟨y,u⟩:∃y,y=x.take (gT st x):=⟨_,rfl⟩;rw[<-u]at l|-;rw[l]at j|-;have s:(bE r st.B y).length=64:=by unfold bE;simp;omega
 have a:(bE r st.B y).take 64=bE r st.B y:=A6 aE;have c:(bE r st.B y).take (r+y.length)=(m++y).drop (64*q):=by
  unfold bE;rw[E9 aE,<-k,C5 jJ,A6 jJ]
 refine⟨s,bC,?_,?_⟩
 .simp only[B6];by_cases d:r+y.length=64
  .have b:(m.length+y.length) / 64=q+1:=aE;rw[if_pos d,b,vQ,JO _ _ _ _ aE,i,<-c,d,a,a]
  .have b:(m.length+y.length) / 64=q:=aE;rw[if_neg d,b,JO _ _ _ _ aE,i]
 .simp only[B6];by_cases d:r+y.length=64
  .have b:(m.length+y.length) / 64=q+1:=aE;have f:(m.length+y.length)%64=0:=aE;rw[b,f,L3,I6 (by rw[B6];omega)]
  .have b:(m.length+y.length) / 64=q:=aE;have f:(m.length+y.length)%64=r+y.length:=aE;rw[b,f,c]
theorem yC{st:iD}{x:List UInt8}(h:x≠[]):0<gT st x:=by
 unfold gT;have:=J4.2 h;omega
theorem yB.adds:∀(f:Nat) {m:List UInt8} {st:iD} (_:yB m st) (x:List UInt8),x.length<=f->yB (m++x) (Ez f st x)
 |0,m,st,h,x,hx=>by
  have:x=[]:=A7 aE;subst this;simpa [Ez]using h
 |f+1,m,st,h,x,hx=>by
  unfold Ez;split
  .rename_i e;subst e;simpa using h
  .rename_i e;have a:=yB.adds f (h.step x) (x.drop (gT st x)) (by rw[C9];have:=yC (st:=st) e;omega)
   rwa[D8,I8]at a
def Ua(n:Nat):List UInt8:=(List.range 8).map λi=>B7 (n / 256^(7-i))
def rM(n:Nat):List UInt8:=128::B4 ((119-n%64)%64) 0++Ua (8*n)
theorem XH(n:Nat):(n+(rM n).length)%64=0:=by simp[rM,Ua];omega
def qF(s:H8):List UInt8:=[s.a,s.b,s.c,s.d,s.e,s.f,s.g,s.h].flatMap λ(x:BitVec 32)=>[B7 (x>>>24).toNat,B7 (x>>>16).toNat,B7 (x>>>8).toNat,B7 x.toNat]
def oF(m:List UInt8):List UInt8:=qF (vQ iv (m++rM m.length) ((m++rM m.length).length / 64))
theorem yB.sum{m:List UInt8}{a:iD}(h:yB m a)(f:Nat)(c:(rM m.length).length<=f):qF (Ez f a (rM a.n)).s=oF m:=by
 obtain⟨_,b,_,_⟩:=id h;have:=(h.adds f (rM m.length) c).2.2.1;rw[b,this,oF]
section
abbrev bA:=List UInt8
structure Nm where
 who:Int
 seq:Int
 deriving DecidableEq,Inhabited
structure Df where
 name:bA
 text:bA
 deriving DecidableEq,Inhabited
structure Ed where
 name:Nm
 needs:List Nm
 puts:List Df
 drops:List bA
 deriving DecidableEq,Inhabited
abbrev aJ(n:Int):DV:=.int .i64 n
def Nm.d(n:Nm):DV:=.agg [.int .i64 n.who,.int .i64 n.seq]
def Df.d(d:Df):DV:=.agg [.str d.name,.str d.text]
def aEH(l:List Nm):DV:=.sl (l.map Nm.d)
def gG(l:List Df):DV:=.sl (l.map Df.d)
def uB(l:List bA):DV:=.sl (l.map .str)
def Ed.d(e:Ed):DV:=.agg [.int .i64 e.name.who,.int .i64 e.name.seq,.sl (e.needs.map Nm.d),.sl (e.puts.map Df.d),.sl (e.drops.map .str)]
def aEI(l:List Ed):DV:=.sl (l.map Ed.d)
theorem JP{α β:Type}{f:α->β}{a:List α}:A9 a.length (B0 f a)=B0 f a:=A6 bC
theorem JQ{α β:Type}{f:α->β}{l:List α}{t:List β}:A9 l.length (B0 f l++t)=B0 f l:=by rw[C5 bC,A6 bC]
theorem yD{α:Type}{k n:Nat}{l:List α}{x:α}(h:x∈(l.drop k).take n):x∈l:=D9 (C0 h)
theorem Pa{l:List Nm}{y:DV}(h:y∈l.map Nm.d):(aV y).length=2/\∀c∈aV y,memless c=true:=by
 obtain⟨a,_,rfl⟩:=B9.1 h;exact⟨rfl,by simp[Nm.d,aV,memless]⟩
theorem Pb{l:List Df}{y:DV}(h:y∈l.map Df.d):(aV y).length=2/\∀c∈aV y,memless c=true:=by
 obtain⟨a,_,rfl⟩:=B9.1 h;exact⟨rfl,by simp[Df.d,aV,memless]⟩
theorem JR{l:List bA}{y:DV}(h:y∈l.map DV.str):(aV y).length=1/\∀c∈aV y,memless c=true:=by
 obtain⟨a,_,rfl⟩:=B9.1 h;exact⟨rfl,by simp[aV,memless]⟩
theorem Pc{l:List Ed}{y:DV}(h:y∈l.map Ed.d):(aV y).length=5:=by
 obtain⟨a,_,rfl⟩:=B9.1 h;rfl
section
variable{l:List Nm} {m:List Df} {r:List bA} {e:List Ed} {k n:Nat}
theorem aEJ:(∀y∈A9 k (B0 Nm.d l),(aV y).length=2)↔True:=iff_true_intro λ_ h=>(Pa (C0 h)).1
theorem aEK:(∀y∈E8 k (B0 Nm.d l),(aV y).length=2)↔True:=iff_true_intro λ_ h=>(Pa (D9 h)).1
theorem aDQ:(∀y∈A9 n (E8 k (B0 Nm.d l)),(aV y).length=2)↔True:=iff_true_intro λ_ h=>(Pa (yD h)).1
theorem aEL:(∀y∈A9 k (B0 Df.d m),(aV y).length=2)↔True:=iff_true_intro λ_ h=>(Pb (C0 h)).1
theorem aEM:(∀y∈E8 k (B0 Df.d m),(aV y).length=2)↔True:=iff_true_intro λ_ h=>(Pb (D9 h)).1
theorem aDR:(∀y∈A9 n (E8 k (B0 Df.d m)),(aV y).length=2)↔True:=iff_true_intro λ_ h=>(Pb (yD h)).1
theorem aDS:(∀y∈A9 k (B0 DV.str r),(aV y).length=1)↔True:=iff_true_intro λ_ h=>(JR (C0 h)).1
theorem aDT:(∀y∈E8 k (B0 DV.str r),(aV y).length=1)↔True:=iff_true_intro λ_ h=>(JR (D9 h)).1
theorem aCW:(∀y∈A9 n (E8 k (B0 DV.str r)),(aV y).length=1)↔True:=iff_true_intro λ_ h=>(JR (yD h)).1
theorem aEN:(∀y∈A9 k (B0 Ed.d e),(aV y).length=5)↔True:=iff_true_intro λ_ h=>Pc (C0 h)
theorem aEO:(∀y∈E8 k (B0 Ed.d e),(aV y).length=5)↔True:=iff_true_intro λ_ h=>Pc (D9 h)
theorem aDU:(∀y∈A9 n (E8 k (B0 Ed.d e)),(aV y).length=5)↔True:=iff_true_intro λ_ h=>Pc (yD h)
end
def Pre{α:Type}(p:α->Bool)(l:List α)(i:Nat):Prop:=∀j (h:j<l.length),j<i->p l[j]=false
theorem Pre.zero{α:Type}{p:α->Bool}{l:List α}:Pre p l 0:=λ_ _ h=>absurd h (L1 _)
theorem Pre.succ{α:Type}{p:α->Bool}{l:List α}{i:Nat}(h:Pre p l i)(d:i<l.length)(c:p l[i]=false):Pre p l (i+1):=λj a b=>by
 by_cases e:j=i
 .subst e;exact c
 .exact h j a aE
theorem Pre.found{α:Type}{p:α->Bool}{l:List α}{i:Nat}(h:Pre p l i)(a:i<l.length)(c:p l[i]=true):l.findIdx? p=some i:=by
 rw[List.findIdx?_eq_some_iff_getElem];exact⟨a,c,λj b=>by rw[h j aE b];simp⟩
theorem Pre.none{α:Type}{p:α->Bool}{l:List α}{i:Nat}(h:Pre p l i)(hi:l.length<=i):l.findIdx? p=none:=by
 rw[List.findIdx?_eq_none_iff];intro x b;obtain⟨j,a,rfl⟩:=E0 b;exact h j a aE
theorem aCX{α:Type}{p:α->Bool}{l:List α}{i:Nat}(a:i<l.length)(b:p l[i]=true):l.any p=true:=List.any_eq_true.2 ⟨_,K4 a,b⟩
theorem JS{α:Type}{a b:List α}{i:Nat}(h:a.take i=b.take i)(f:i<a.length)(g:i<b.length)(e:a[i]=b[i]):a.take (i+1)=b.take (i+1):=by
 have c:a.take (i+1)=a.take i++[a[i]]:=bC;have d:b.take (i+1)=b.take i++[b[i]]:=bC;rw[c,d,h,e]
def bS(n m:Int):Int:=(if n<0 then -(n+1)else n).tmod m
def eA(l:List Int)(i m:Int):Int:=if i<0\/l.length<=i then 0 else bS (l.getD i.toNat 0) m
def lH{α:Type}(p:α->Bool)(out:List α):Nat->Nat
 |0=>0
 |k+1=>match out[k]? with
  |some y=>if p y then lH p out k else k+1
  |none=>k+1
def gU{α:Type}(k:Nat)(x:α)(out:List α):List α:=out.take k++x::out.drop k
theorem qW{α:Type}{p:α->Bool}{a:List α}{k:Nat}(h:∀i,k=i+1->∀(c:i<a.length),p a[i]=false):lH p a k=k:=by
 cases k with
 |zero=>rfl
 |succ k=>
  simp only[lH];cases q:a[k]? with
  |none=>rfl
  |some y=>
   obtain⟨b,rfl⟩:=A8.1 q;simp[h k rfl b]
theorem Ac{α:Type}{p:α->Bool}{out:List α}{k:Nat}(a:k<out.length)(h:p out[k]=true):lH p out (k+1)=lH p out k:=by
 simp only[lH,A5 a,h,if_true]
theorem EP{α:Type}{p:α->Bool}{out:List α}:∀k,lH p out k<=k
 |0=>A4 _
 |k+1=>by
  simp only[lH];cases out[k]? with
  |none=>exact A4 _
  |some y=>simp only;split;exact Nat.le_succ_of_le (EP k);exact A4 _
theorem aA3{α β:Type}{f:α->β}{a:List α}{k:Nat}{x:α}{y:β}(h:k<=a.length)(d:f x=y):A9 (k+1) (A9 k (A9 k (B0 f a))++[y])++A9 (a.length-k) (E8 k (B0 f a))=B0 f (gU k x a):=by
 subst d;have b:A9 (k+1) (A9 k (A9 k (B0 f a))++[f x])=A9 k (B0 f a)++[f x]:=by
  rw[J3,Nat.min_self];exact A6 jJ
 have c:A9 (a.length-k) (E8 k (B0 f a))=E8 k (B0 f a):=A6 bC;rw[b,c];simp[gU]
theorem Pd{acc:List Df}{k:Nat}{x:Df}(h:k<=acc.length):A9 (k+1) (A9 k (A9 k (B0 Df.d acc))++[.agg [.str x.name,.str x.text]])++A9 (acc.length-k) (E8 k (B0 Df.d acc))=B0 Df.d (gU k x acc):=aA3 h rfl
theorem vS{α:Type}{k:Nat}{x:α}{a:List α}:(gU k x a).length=a.length+1:=by
 unfold gU;simp;omega
theorem dP(n m:Int)(a:0<m):0<=bS n m/\bS n m<m:=by
 unfold bS;split
 .exact⟨L2 _ aE,J9 _ a⟩
 .exact⟨L2 _ aE,J9 _ a⟩
end
def eR:Nat->Nat->List Nat
 |0,_=>[]
 |f+1,m=>if m=0 then []else m%256::eR f (m / 256)
theorem FQ:∀(f m:Nat),(eR f m).length<=f
 |0,_=>A4 _
 |f+1,m=>by
  unfold eR;split
  .simp
  .have:=FQ f (m / 256);simp only[I1];omega
theorem BQ:∀(f m:Nat),∀d∈eR f m,d<256
 |0,_,d,h=>by cases h
 |f+1,m,d,h=>by
  unfold eR at h;split at h
  .cases h
  .rcases J6.1 h with rfl|h
   .omega
   .exact BQ f _ d h
def lX(n:Int):Nat:=(if n<0 then -1-n else n).toNat
def nE(n:Int):List Nat:=(if n<0 then 127-(eR 8 (lX n)).length else 128+(eR 8 (lX n)).length)::(eR 8 (lX n)).reverse.map λd=>if n<0 then 255-d else d
def LY(n:Int):Prop:= -9223372036854775808<=n/\n<=9223372036854775807
theorem EQ{n:Int}(h:LY n):lX n<256^8:=by
 obtain⟨a,b⟩:=h;unfold lX;split<;>omega
theorem aCn{n:Nat}(h:n<=9223372036854775807):LY (n:Int):=⟨aE,aE⟩
def rN(s:List UInt8):List Nat:=nE s.length++s.map UInt8.toNat
def eZ(b:UInt8):DV:=.int .u8 (b.toNat:Int)
def JT(s:H8):List DV:=[eP s.a,eP s.b,eP s.c,eP s.d,eP s.e,eP s.f,eP s.g,eP s.h]
def kY(st:iD):List DV:=JT st.s++(st.B.map eZ++[.int .u64 (st.n:Int)])
def CR(s:H8):List LV:=(JT s).map .d
def dM(st:iD):List LV:=(kY st).map .d
def wL(ws:List (BitVec 32)):List LV:=ws.map λx=>.d (eP x)
def wD(ws:List (BitVec 32)):List DV:=ws.map eP
theorem XI(a:List (BitVec 32)):wL a=(wD a).map .d:=by simp[wL,wD]
theorem pY(a:List (BitVec 32)):(wL a).length=a.length:=by simp[wL]
theorem fS:∀l:List DV,xC (l.map .d)=some l
 |[]=>rfl
 |x::l=>by simp[xC,fS l]
theorem JU(s:H8):(JT s).length=8:=rfl
theorem qX{st:iD}(h:st.B.length=64):(kY st).length=73:=by simp[kY,JT,h]
theorem gM{st:iD}(h:st.B.length=64):(dM st).length=73:=by simp[dM,qX h]
theorem Pe{st:iD}(h:st.B.length=64):(dM st)[72]? =some (.d (.int .u64 (st.n:Int))):=by
 simp[dM,kY,JT,h]
theorem aCY{a:iD}(h:a.B.length=64){i:Nat}(b:i<64):(dM a)[8+i]? =some (.d (eZ (a.B.getD i 0))):=by
 have e:(dM a)[8+i]? =((a.B.map eZ++[DV.int .u64 (a.n:Int)]).map LV.d)[i]? :=by
  unfold dM kY;rw[H3,B2 (by simp[JT])];simp[JT]
 rw[e,H3,B3 (by simp[h,b])];simp[A5 (show i<a.B.length by omega)]
theorem aCZ(a:iD):(dM a).take 8=CR a.s:=by
 unfold dM kY CR;rw[H3,List.take_left' (by simp[JT])]
theorem BR{a:iD}(h:a.B.length=64):(dM a).take 73=dM a:=A6 (by rw[gM h];exact A4 _)
theorem uC{α:Type}{A B new:List α}{k n:Nat}(a:A.length=k):bE (k+n) (A++B) new=A++bE n B new:=by
 unfold bE;rw[List.take_append,List.drop_append,a,Nat.add_sub_cancel_left,A6 aE,show k+n+new.length-k=n+new.length by omega,I6 aE];simp
theorem pB{α β:Type}(f:α->β)(n:Nat)(A B:List α):bE n (A.map f) (B.map f)=(bE n A B).map f:=by simp[bE]
theorem HZ{α:Type}{A B a:List α}{n:Nat}(h:n+a.length<=A.length):bE n (A++B) a=bE n A a++B:=by
 unfold bE;rw[C5 aE,E9 aE];simp
theorem CS{α:Type}{A a:List α}{n:Nat}(h:n+a.length<=A.length):(bE n A a).length=A.length:=by
 simp[bE];omega
theorem Ub(y:List UInt8):vB y=(y.map eZ).map .d:=by simp[vB,eZ]
theorem Uc{st:iD}(h:st.B.length=64){k:Nat}{y:List UInt8}(a:k+y.length<=64):bE (8+k) (dM st) (vB y)=dM ⟨st.s,bE k st.B y,st.n⟩:=by
 rw[Ub];unfold dM kY;rw[pB,uC (JU _),HZ (by simp[h];omega),pB]
theorem Ud{st:iD}(h:st.B.length=64)(n:Nat):bE 72 (dM st) [.d (.int .u64 (n:Int))]=dM ⟨st.s,st.B,n⟩:=by
 rw[show [LV.d (.int .u64 (n:Int))]=[DV.int .u64 (n:Int)].map LV.d by rfl];unfold dM kY;rw[pB,show 72=8+64 by rfl,uC (JU _),show 64=64+0 by rfl,uC (by simp[h])];simp[bE]
theorem Ue(a:iD)(s:H8):bE 0 (dM a) (CR s)=dM ⟨s,a.B,a.n⟩:=by
 unfold dM kY CR;rw[pB,HZ (by simp[JT])];simp[bE,JT]
theorem mP(a:List TK)(b:Bool)(x y:BitVec 32):aW a b .add (.d (eP x)) (.d (eP y))=.plain (.d (eP (x+y))):=by
 simp[aW,eP,aDL, -K5]
theorem mQ(a:List TK)(b:Bool)(x y:BitVec 32):aW a b .and (.d (eP x)) (.d (eP y))=.plain (.d (eP (x&&&y))):=congrArg (λz=>lB.plain (LV.d (.int .u32 z))) (aDM x y)
theorem pC(a:List TK)(b:Bool)(x y:BitVec 32):aW a b .or (.d (eP x)) (.d (eP y))=.plain (.d (eP (x|||y))):=congrArg (λz=>lB.plain (LV.d (.int .u32 z))) (aEG x y)
theorem mR(a:List TK)(b:Bool)(x y:BitVec 32):aW a b .xor (.d (eP x)) (.d (eP y))=.plain (.d (eP (x^^^y))):=congrArg (λz=>lB.plain (LV.d (.int .u32 z))) (aDN x y)
theorem jX(a:List TK)(b:Bool)(x:BitVec 32):aW a b .xor (.d (eP x)) (.d (.int .u32 4294967295))=.plain (.d (eP (~~~x))):=congrArg (λz=>lB.plain (LV.d (.int .u32 z))) (aCU x)
theorem pD(x:BitVec 32):bJ .xor (.d (eP x))=.plain (.d (eP (~~~x))):=congrArg (λz=>lB.plain (LV.d (.int .u32 z))) (aDO x)
theorem Uf(x:BitVec 32)(k:Nat):IntKind.u32.wrap ((x.toNat:Int)*2^min k 32)=((x<<<k).toNat:Int):=by
 rcases L8 k 32 with h|h
 .rw[I7 h,aCl x k h]
 .rw[K6 h,aCl x 32 (A4 _),I0 h,I0 (A4 _)]
theorem Ug(x:BitVec 32)(k:Nat):(x.toNat:Int).fdiv (2^min k 32)=((x>>>k).toNat:Int):=by
 rcases L8 k 32 with h|h
 .rw[I7 h,aCm x k]
 .rw[K6 h,aCm x 32,H6 h,H6 (A4 _)]
theorem mS(a:List TK)(b:Bool)(x:BitVec 32)(k:IntKind)(n:Int):aW a b .shl (.d (eP x)) (.d (.int k n))=.cond (.d (eP (x<<<n.toNat))) (0<=n):=congrArg (λz=>lB.cond (LV.d (.int .u32 z)) (0<=n)) (Uf x n.toNat)
theorem mT(a:List TK)(b:Bool)(x:BitVec 32)(k:IntKind)(n:Int):aW a b .shr (.d (eP x)) (.d (.int k n))=.cond (.d (eP (x>>>n.toNat))) (0<=n):=congrArg (λz=>lB.cond (LV.d (.int .u32 z)) (0<=n)) (Ug x n.toNat)
def byW(x:BitVec 32):UInt8:=B7 x.toNat
theorem sS(T:TypeId->cX)(H:Nat->bI){s t:TypeId}(a:(T s).k=.int .u32)(b:(T t).k=.int .u8)(x:BitVec 32):aR T H s t (.d (eP x))=.plain (.d (eZ (byW x))):=by
 simp only[aR,a,b,eP,eZ,byW,aDP]
theorem pE(T:TypeId->cX)(H:Nat->bI){s t:TypeId}(a:(T s).k=.int .u8)(c:(T t).k=.int .u32)(b:UInt8):aR T H s t (.d (eZ b))=.plain (.d (eP (LT b))):=by
 simp only[aR,a,c,eP,eZ,aCV]
theorem pF(x:BitVec 32):dU (.d (eP x))=[.d (eP x)]:=rfl
theorem pG(x:BitVec 32):aV (eP x)=[eP x]:=rfl
theorem pH(x:UInt8):dU (.d (eZ x))=[.d (eZ x)]:=rfl
theorem nJ(x:UInt8):aV (eZ x)=[eZ x]:=rfl
theorem uD(x:UInt8):tG (eZ x)=x:=by simp[tG,eZ]
theorem aDW(l:List UInt8):(l.map eZ).map tG=l:=by
 rw[I3,show tG∘eZ=id from funext uD,K7]
theorem aDX:∀k:Nat,k<32->0<k->IntKind.u64.wrap (((IntKind.u64.wrap (-(k:Int))%2^IntKind.u64.bits).toNat&&&31%2^IntKind.u64.bits:Nat):Int)=((32-k:Nat):Int):=bF
theorem oG{n:Nat}(h:n<18446744073709551616):IntKind.u64.wrap (n:Int)=(n:Int):=by
 unfold IntKind.wrap;simp[IntKind.bits,IntKind.signed];omega
theorem Ia{n:Nat}(h:n<9223372036854775808):IntKind.i64.wrap (n:Int)=(n:Int):=by
 unfold IntKind.wrap;simp[IntKind.bits,IntKind.signed];omega
theorem XJ{st:iD}(h:st.B.length=64)(x:List UInt8):(wT st x).B.length=64:=by
 unfold wT;rw[CS (by rw[C8,h];have:=M0 st.n (show 0<64 by decide);omega),h]
theorem LZ:∀(f g:Nat) (st:iD) (x:List UInt8),x.length<=f->x.length<=g->Ez f st x=Ez g st x
 |0,0,_,_,_,_=>rfl
 |0,g+1,st,x,h,_=>by have:x=[]:=A7 aE;subst this;simp[Ez]
 |f+1,0,st,x,_,h=>by have:x=[]:=A7 aE;subst this;simp[Ez]
 |f+1,g+1,st,x,h1,h2=>by
  unfold Ez;split
  .rfl
  .rename_i e;have:=yC (st:=st) e;exact LZ f g _ _ (by rw[C9];omega) (by rw[C9];omega)
def yE(st:iD)(x:List UInt8):iD:=Ez x.length st x
theorem XK(st:iD):yE st []=st:=rfl
theorem Ib{st:iD}{x:List UInt8}(h:x≠[]):yE (wT st x) (x.drop (gT st x))=yE st x:=by
 unfold yE;obtain⟨f,a⟩:∃f,x.length=f+1:=⟨x.length-1,by have:=J4.2 h;omega⟩;rw[a,Ez,if_neg h];exact LZ _ _ _ _ (A4 _) (by rw[C9];have:=yC (st:=st) h;omega)
theorem Bb{m:List UInt8}{a:iD}(h:yB m a)(x:List UInt8):yB (m++x) (yE a x):=h.adds _ x (A4 _)
theorem yB.hash{m:List UInt8}{a:iD}(h:yB m a):qF (yE a (rM a.n)).s=oF m:=by
 obtain⟨_,b,_,_⟩:=id h;exact h.sum _ (by rw[b];exact A4 _)
def toS(l:List Nat):List UInt8:=l.map B7
def AO(tag:Nat)(parts:List (List UInt8)):List UInt8:=B7 tag::parts.flatMap λp=>toS (rN p)
def ER(tag:Nat)(parts:List (List UInt8)):List UInt8:=(oF (AO tag parts)).take 16
def dO(l:List UInt8):List DV:=l.map eZ
theorem uE(s:H8):(qF s).length=32:=by simp[qF]
theorem nK(m:List UInt8):(oF m).length=32:=uE _
theorem Ad(b:Nat)(a:List (List UInt8)):(ER b a).length=16:=by simp[ER,nK]
theorem aEP:prog.follows .mixedOrders=true:=by kernel_rfl
theorem aDY(a b:Nm):(decide (a.who=b.who)&&decide (a.seq=b.seq))=decide (a=b):=by
 cases a;cases b;simp[Bool.decide_and]
theorem aDZ(a b:Df):(a.name==b.name&&a.text==b.text)=decide (a=b):=by
 cases a;cases b;simp[I9]
theorem jQ{p:Prop}(h:p:=by kernel_rfl):p:=h
section
variable{P:Program} {T:TypeId->cX} {N:Nat} {w0:dH} {X:Nat->Prop} {Q:LX->eO->dQ->Prop} {env:eO} {H:dQ}
theorem Pf(hT:gI P T)(hW:DI T){id:Nat}{l:List Oper}(h:(fM P T N l (λ_=>none) env H).ok/\Q .normal (fM P T N l (λ_=>none) env H).env (fM P T N l (λ_=>none) env H).H):
 fL P N w0 X (.region id l.toArray false) Q env H:=vG hT hW (λ_=>none) (λ_=>⟨rfl,λ_ h=>h⟩) h
theorem fL.ro(hT:gI P T)(hW:DI T){id:Nat}{l:List Oper}(a:Nat->Option kK)(h:(fM P T N l a env H).ok/\Q .normal (fM P T N l a env H).env (fM P T N l a env H).H)
 (b:∀d,vF (a d):=by intro d;first|exact CT ⟨rfl,λ_ h=>h⟩|exact⟨rfl,λ_ h=>h⟩|(split<;>exact⟨rfl,λ_ h=>h⟩)):fL P N w0 X (.region id l.toArray false) Q env H:=vG hT hW a b h
theorem Pg(hT:gI P T)(hW:DI T){id:Nat}{l:List Oper}{y:Code}(h:(fM P T N l (λ_=>none) env H).ok/\AU (fL P N w0 X y Q) Q .normal (fM P T N l (λ_=>none) env H).env (fM P T N l (λ_=>none) env H).H):
 fL P N w0 X (.seq (.region id l.toArray false) y) Q env H:=fL.seq (Pf hT hW h)
theorem aC0(hT:gI P T)(hW:DI T){id:Nat}{l:List Oper}{y:Code}(a:Nat->Option kK)(h:(fM P T N l a env H).ok/\AU (fL P N w0 X y Q) Q .normal (fM P T N l a env H).env (fM P T N l a env H).H)
 (b:∀d,vF (a d):=by intro d;first|exact CT ⟨rfl,λ_ h=>h⟩|exact⟨rfl,λ_ h=>h⟩|(split<;>exact⟨rfl,λ_ h=>h⟩)):fL P N w0 X (.seq (.region id l.toArray false) y) Q env H:=fL.seq (fL.ro hT hW a h b)
theorem aD{id:Nat}{l:List Oper}{y:Code}(h:(fM prog Eng.T N l (λ_=>none) env H).ok/\AU (fL prog N w0 X y Q) Q .normal (fM prog Eng.T N l (λ_=>none) env H).env (fM prog Eng.T N l (λ_=>none) env H).H):
 fL prog N w0 X (.seq (.region id l.toArray false) y) Q env H:=Pg hT hW h
theorem aI{id:Nat}{l:List Oper}(h:(fM prog Eng.T N l (λ_=>none) env H).ok/\Q .normal (fM prog Eng.T N l (λ_=>none) env H).env (fM prog Eng.T N l (λ_=>none) env H).H):
 fL prog N w0 X (.region id l.toArray false) Q env H:=Pf hT hW h
theorem dA{id:Nat}{l:List Oper}{y z:Code}(h:(fM prog Eng.T N l (λ_=>none) env H).ok/\AU (fL prog N w0 X y (AU (fL prog N w0 X z Q) Q)) (AU (fL prog N w0 X z Q) Q) .normal (fM prog Eng.T N l (λ_=>none) env H).env (fM prog Eng.T N l (λ_=>none) env H).H):
 fL prog N w0 X (.seq (.seq (.region id l.toArray false) y) z) Q env H:=fL.seq (Pg hT hW h)
theorem aP{id:Nat}{l:List Oper}{x y:Code}{c:Operand}(h:(fM prog Eng.T N l (λ_=>none) env H).ok/\QS (lC (fM prog Eng.T N l (λ_=>none) env H).env c) (fL prog N w0 X x Q (fM prog Eng.T N l (λ_=>none) env H).env (fM prog Eng.T N l (λ_=>none) env H).H) (fL prog N w0 X y Q (fM prog Eng.T N l (λ_=>none) env H).env (fM prog Eng.T N l (λ_=>none) env H).H)):
 fL prog N w0 X (.seq (.region id l.toArray false) (.cond c x y)) Q env H:=Pg hT hW ⟨h.1,aK h.2⟩
abbrev aU{id:Nat}{l:List Oper}(orc:Nat->Option kK)(h:(fM prog Eng.T N l orc env H).ok/\Q .normal (fM prog Eng.T N l orc env H).env (fM prog Eng.T N l orc env H).H)
 (hdet:∀d,vF (orc d):=by intro d;first|exact CT ⟨rfl,λ_ h=>h⟩|exact⟨rfl,λ_ h=>h⟩|(split<;>exact⟨rfl,λ_ h=>h⟩)):fL prog N w0 X (.region id l.toArray false) Q env H:=fL.ro hT hW orc h hdet
abbrev cP{id:Nat}{l:List Oper}{y:Code}(orc:Nat->Option kK)(h:(fM prog Eng.T N l orc env H).ok/\AU (fL prog N w0 X y Q) Q .normal (fM prog Eng.T N l orc env H).env (fM prog Eng.T N l orc env H).H)
 (hdet:∀d,vF (orc d):=by intro d;first|exact CT ⟨rfl,λ_ h=>h⟩|exact⟨rfl,λ_ h=>h⟩|(split<;>exact⟨rfl,λ_ h=>h⟩)):fL prog N w0 X (.seq (.region id l.toArray false) y) Q env H:=aC0 hT hW orc h hdet
end
section
variable{P:Program} {T:TypeId->cX} {N:Nat} {w0:dH} {X:Nat->Prop} {Q:LX->eO->dQ->Prop} {env env':eO} {H H':dQ}
theorem aA{d:List Nat}(f:w0.pins=d)(a:List Nat)(σ:List (Nat×Nat))(e:aQ (a.map λt=>(t,ren σ 8 (env t)))=env':=by simp)(hH:aL (σ.map λp=>(p.2,cY σ (H p.1)))=H':=by simp)
 (g:(σ.map (·.2)).Nodup:=by decide)(c:(σ.map (·.1)).Nodup:=by decide)(b:(d.all λid=>dN σ id==some id)=true:=by rfl):jD w0 env H env' H':=
 qH a σ g c (λid hid=>by rw[f]at hid;simpa using List.all_eq_true.1 b id hid) e hH
theorem bL{f:FuncId}{g:Func}{c:Code}{a:List DV}{r:RV}{b:Bool}{n t:Nat}(l:prog.funcs[f]? =some g)(k:g.body=some c)(m:g.ntmps=n)(i:g.results= #[.tmp t])
 (h:∀w0 X,w0.pins=[]->fL prog n w0 X c (aAS t b r) (iQ a) (aL []))(e:(g.name== "runtime.NumGoroutine")=false:=by kernel_rfl)(d:a.length<=n:=by simp)(j:∀o,r≠ .tup o:=by intro _ h;cases h):Ok prog f a ⟨r,b⟩:=Ok.ret l e k m d i j h
theorem uF{f:FuncId}{g:Func}{c:Code}{a:List DV}{r:RV}{b:Bool}{n t:Nat}{k:TypeId}(m:prog.funcs[f]? =some g)(l:g.body=some c)(o:g.ntmps=n)(i:g.results= #[.cell t k])
 (h:∀w0 X,w0.pins=[]->fL prog n w0 X c (aAT Eng.T t k b r) (iQ a) (aL []))(e:(g.name== "runtime.NumGoroutine")=false:=by kernel_rfl)(d:a.length<=n:=by simp)(j:∀p,r≠ .tup p:=by intro _ h;cases h):Ok prog f a ⟨r,b⟩:=Ok.cell hT m e l o d i j h
theorem oH{f:FuncId}{g:Func}{c:Code}{a:List LV}{h e:List (Nat×bI)}{n:Nat}(k:prog.funcs[f]? =some g)(j:g.body=some c)(l:g.ntmps=n)(i:g.results= #[])
 (m:∀w0 X,w0.pins=h.map (·.1)->fL prog n w0 X c (HV w0 e) (JK a) (aL h))(d:(g.name== "runtime.NumGoroutine")=false:=by kernel_rfl)(b:a.length<=n:=by simp):iP prog f a h e (.tup []):=Xj k d j l b i m
theorem iV{f:FuncId}{g:Func}{c:Code}{a:List LV}{h e:List (Nat×bI)}{j:LV}{n t:Nat}(l:prog.funcs[f]? =some g)(k:g.body=some c)(m:g.ntmps=n)(i:g.results= #[.tmp t])
 (o:∀w0 X,w0.pins=h.map (·.1)->fL prog n w0 X c (QW w0 t e j) (JK a) (aL h))(d:(g.name== "runtime.NumGoroutine")=false:=by kernel_rfl)(b:a.length<=n:=by simp):iP prog f a h e j:=iP.one l d k m b i o
theorem fJ{f:FuncId}{g:Func}{c:Code}{a:List LV}{h e:List (Nat×bI)}{j:LV}{n t:Nat}{k:TypeId}(m:prog.funcs[f]? =some g)(l:g.body=some c)(o:g.ntmps=n)(i:g.results= #[.cell t k])
 (p:∀w0 X,w0.pins=h.map (·.1)->fL prog n w0 X c (Sd w0 Eng.T t k e j) (JK a) (aL h))(d:(g.name== "runtime.NumGoroutine")=false:=by kernel_rfl)(b:a.length<=n:=by simp):iP prog f a h e j:=iP.cell hT m d l o b i p
abbrev aF{P:Program}{N:Nat}{w0:dH}{X:Nat->Prop}{Q:LX->eO->dQ->Prop}{env:eO}{H:dQ}{x y:Code}(h:fL P N w0 X x (AU (fL P N w0 X y Q) Q) env H):=fL.seq h
abbrev aH{P:Program}{N:Nat}{w0:dH}{X:Nat->Prop}{Q:LX->eO->dQ->Prop}{env:eO}{H:dQ}(h:Q .ret env H):fL P N w0 X .ret Q env H:=fL.ret h
abbrev aG{P:Program}{N:Nat}{w0:dH}{X:Nat->Prop}{Q:LX->eO->dQ->Prop}{env:eO}{H:dQ}(h:Q .normal env H):fL P N w0 X .skip Q env H:=fL.skip h
abbrev bG{P:Program}{N:Nat}{w0:dH}{X:Nat->Prop}{Q:LX->eO->dQ->Prop}{env:eO}{H:dQ}{id:Nat}(h:Q (.exit id) env H):fL P N w0 X (.exit id) Q env H:=fL.exit h
abbrev aM{P:Program}{N:Nat}{w0:dH}{X:Nat->Prop}{Q:LX->eO->dQ->Prop}{env:eO}{H:dQ}{id:Nat}{c:Code}(h:fL P N w0 X c (xO id Q) env H):fL P N w0 X (.block id c) Q env H:=fL.block h
abbrev cR{P:Program}{N:Nat}{w0:dH}{X:Nat->Prop}{Q:LX->eO->dQ->Prop}{env:eO}{H:dQ}{id:Nat}{x y:Code}(h:fL P N w0 X x (xO id (AU (fL P N w0 X y Q) Q)) env H):fL P N w0 X (.seq (.block id x) y) Q env H:=fL.seq (fL.block h)
abbrev eG{P:Program}{N:Nat}{w0:dH}{X:Nat->Prop}{Q:LX->eO->dQ->Prop}{env:eO}{H:dQ}{x y z:Code}(h:fL P N w0 X x (AU (fL P N w0 X y (AU (fL P N w0 X z Q) Q)) (AU (fL P N w0 X z Q) Q)) env H):fL P N w0 X (.seq (.seq x y) z) Q env H:=fL.seq (fL.seq h)
def og(n:Nat)(x:kK)(d:Nat):Option kK:=if d=n then some x else none
@[simp] theorem aEw{n:Nat}{x:kK}:og n x n=some x:=if_pos rfl
theorem CT{n d:Nat}{x:kK}(h:vF (some x)):vF (og n x d):=by
 unfold og;split
 .exact h
 .exact⟨rfl,λ_ h=>h⟩
@[simp] theorem aE0{n d:Nat}{x:kK}(h:d≠n):og n x d=none:=if_neg h
abbrev oh(n:Nat)(A:List (Nat×bI))(B:LV):Nat->Option kK:=og n (.gen ⟨[(0,0)],[],[],A,B⟩)
def clG(l:List Oper):List (List Nat):=l.foldl (λacc o=>acc++[o.after.toList.foldl (λs e=>if Region.binds .any e then(if s.contains e.on then s else e.on::s)++((acc.getD e.on []).filter λi=> !(i==e.on||s.contains i))else s) []]) []
def clC(l:List Oper)(j:Nat):List Nat:=(clG l).getD j []
theorem fL.rd{id:Nat}{l:List Oper}(a e:List (List Nat))(b:Nat->Option kK)
 (h:(AF prog Eng.T N l b (lk a) (lk e) ⟨env,H,True⟩).ok/\Q .normal (AF prog Eng.T N l b (lk a) (lk e) ⟨env,H,True⟩).env (AF prog Eng.T N l b (lk a) (lk e) ⟨env,H,True⟩).H)
 (f:FK l (clC l) (lk a) (lk e)=true:=by kernel_rfl)(c:∀d,vF (b d):=by intro d;first|exact CT ⟨rfl,λ_ h=>h⟩|exact⟨rfl,λ_ h=>h⟩|(split<;>exact⟨rfl,λ_ h=>h⟩)):fL prog N w0 X (.region id l.toArray true) Q env H:=
 ON hT hW (by kernel_rfl) (clC l) (lk a) (lk e) f b c h
end
attribute[simp] fM fP jM cB lC qG nI DJ cK cA lB.plain lB.cond lB.fail AU xO iQ qD fU rL memless JC oU zR Tb bok sK jG strip HO lG CJ cT AF gS jW jO jV AE lk cY dN dD eU cS Ff iO Lb nX rD cU oV fV mD jK OP OQ LF OR TD TE TF OS LG OT LH OU TH TI TM TN OV TQ HD Fc mkAgg xC HC gJ bU gP bI.live TK.isNone TK.agg TK.isBool TK.isStr TK.isStruct Op.operands Call.operands fF jR kL jF tS Fd QL mE jL tF bQ frozen sR WQ WR QU TB WT WU WV WZ QV TC Xb Xd Xe Xg aDJ aAU aCJ aCK aCM aCN aCP Xh WO TA OO Nm.d Df.d Ed.d aEH gG uB aEI WP aDY aDZ JP JQ aEJ aEK aDQ aEL aEM aDR aDS aDT aCW aEN aEO aDU gK eY qU aCu qV mF mH mG tU Wi TK.isInt WS Xa aCL TL zP mI tT BB xE zQ oP Fe La Dx wX aDI tR jB lD tQ mC qT lZ xD mJ mK gY JK TR JL TS TT cY WX WY aCI FM TU Xk TO TP OX iM zO TK.isPtr mL dC Xl LI QX WW Xf aCO TG TJ OW
attribute[local simp] aW bJ bE aR
attribute[local simp] lB.cond
def bD(x:Nat):DV:=.int .u8 (x:Int)
theorem nL{x:Int}(a:0<=x)(h:x<256):IntKind.u8.wrap x=x:=by
 unfold IntKind.wrap;simp[IntKind.bits,IntKind.signed];omega
theorem Ic(f:Nat):eR f 0=[]:=by cases f<;>simp[eR]
theorem Id{f m:Nat}(h:0<m):eR (f+1) m=m%256::eR f (m / 256):=by rw[eR,if_neg aE]
def BS(hd:Nat)(L:List Nat)(j:Nat):List DV:=(hd::L.take j).map bD
theorem Ae{hd:Nat}{L:List Nat}:BS hd L 0=[bD hd]:=rfl
theorem nM{hd:Nat}{L:List Nat}{j:Nat}(a:j<=L.length):(BS hd L j).length=j+1:=by simp[BS];omega
theorem mU{hd:Nat}{L:List Nat}{j:Nat}(a:j<=L.length):(BS hd L j).take (j+1)=BS hd L j:=A6 (by rw[nM a];exact A4 _)
theorem Af{hd:Nat}{L:List Nat}{j:Nat}(a:j<L.length):BS hd L (j+1)=BS hd L j++[bD L[j]]:=by
 unfold BS;rw[<-List.take_append_getElem a,F5,F5,H3];rfl
theorem BT{hd:Nat}{L:List Nat}{j:Nat}(a:L.length<=j):BS hd L j=(hd::L).map bD:=by rw[BS,A6 a]
theorem aA4(n:Int)(J:0<=n)(h:LY n):Ok prog 131 [aJ n] ⟨.own 1 ((nE n).map bD),true⟩:=by
 refine bL func131 rfl ntmps131 results131 λV X i=>?_;have d:(lX n:Int)=n:=by unfold lX;rw[if_neg aE];omega
 have f:=EQ h;have p:nE n=(128+(eR 8 (lX n)).length)::(eR 8 (lX n)).reverse:=by unfold nE;rw[if_neg aE];simp[show¬n<0 by omega]
 obtain⟨S,U⟩:=h;obtain⟨M,H⟩:∃M,M=lX n:=⟨_,rfl⟩;rw[<-H]at d f p;apply aD;simp;apply aD;simp;apply aF;apply aP;simp[(show¬n<0 by omega)];apply aG;simp;apply aD;simp;apply cR;refine aO (ι:=List Nat×Nat) (λ⟨D,q⟩=>aQ [(0,.d (aJ n)),(3,.d (aJ q)),(4,.ow 4 0 D.length)]) (λ⟨D,q⟩=>aL [(4,.row false 1 (D.map bD))]) (λ⟨D,q⟩=>eR 8 M=D++eR (8-D.length) q/\D.length<=8/\q<256^(8-D.length)/\q<=M) (λ⟨D,q⟩=>q) ([],M) (aA i [0,3,4] [(4,4)] (by simp[d])) (⟨rfl,bC,by simpa using f,A4 _⟩) λ⟨D,q⟩ e=>?_;apply aF;apply aP;simp;refine⟨λG=>?_,λG=>?_⟩
 .apply aG;simp;apply aM;apply aF;obtain⟨k,P,l,Q⟩:=e;have o:0<q:=aE;have I:D.length<8:=by
   rcases Nat.lt_or_ge D.length 8 with h|h
   .exact h
   .rw[show 8-D.length=0 by omega]at l;simp at l;omega
  have u:eR (8-D.length) q=q%256::eR (8-(D.length+1)) (q / 256):=by rw[show 8-D.length=(8-(D.length+1))+1 by omega,Id o]
  have z:(q:Int).tmod 256=((q%256:Nat):Int):=by rw[Int.tmod_eq_emod_of_nonneg aE];omega
  have v:(q:Int).tdiv 256=((q / 256:Nat):Int):=by rw[Int.tdiv_eq_ediv_of_nonneg aE];omega
  have N:IntKind.u8.wrap ((q%256:Nat):Int)=((q%256:Nat):Int):=nL aE aE;have B:IntKind.u8.wrap ((q:Int)%256)=(q:Int)%256:=nL aE aE;have w:A9 D.length (D.map bD)=D.map bD:=A6 bC;apply aI;simp[z,N,w];refine⟨aE,?_⟩;apply aI;simp[v];refine⟨aE,?_⟩;refine QT.mk (D++[q%256],q / 256) (aA i [0,3,4] [(21,4)] (hH:=by simp[bD,B])) ?_ ?_
  .show eR 8 M=(D++[q%256])++eR (8-(D++[q%256]).length) (q / 256)/\(D++[q%256]).length<=8/\q / 256<256^(8-(D++[q%256]).length)/\q / 256<=M;rw[B6,List.length_singleton];refine⟨by rw[k,u];simp,aE,?_,aE⟩;rw[show 8-D.length=(8-(D.length+1))+1 by omega,Nat.pow_succ]at l;omega
  .show q / 256<q;omega
 .apply bG;simp;apply aF;obtain⟨k,P,l,Q⟩:=e;have K:q=0:=aE;subst K;rw[Ic,L0]at k;rw[k]at p;have A:IntKind.u8.wrap (128+(D.length:Int))=((128+D.length:Nat):Int):=by rw[nL aE aE];omega
  apply aI;simp;apply aD;simp;apply aF;apply aP;simp[J];apply aI;simp[A];refine⟨aE,?_⟩;apply dA;simp;refine⟨aE,?_⟩;apply aM;refine aO (ι:=Nat) (λj=>aQ [(0,.d (aJ n)),(4,.ow 4 0 D.length),(6,.ow 6 0 (j+1)),(7,.d (aJ ((D.length:Int)- 1-(j:Int))))]) (λj=>aL [(4,.row false 1 (D.map bD)),(6,.row false 1 (BS (128+D.length) D.reverse j))]) (λj=>j<=D.length) (λj=>D.length-j) 0 (aA i [0,4,6,7] [(4,4),(33,6)] (hH:=by simp[bD,Ae])) (J0 _) λj E=>?_;apply aF;apply aP;simp;refine⟨λm=>?_,λm=>?_⟩
  .apply aG;simp;apply cR;apply aF;have F:j<D.length:=aE;have s:((D.length:Int)- 1-(j:Int)).toNat=D.length-1-j:=aE;have t:D.reverse.length=D.length:=J5;have g:=Af (hd:=128+D.length) (L:=D.reverse) (j:=j) aE;rw[List.getElem_reverse]at g;have b:=mU (hd:=128+D.length) (L:=D.reverse) (j:=j) aE;have a:=nM (hd:=128+D.length) (L:=D.reverse) (j:=j) aE;have r:D[D.length-1-j]? =some D[D.length-1-j]:=A5 aE;apply aI;simp[s,r,bD];refine⟨aE,?_⟩;apply aF;apply aP;simp[(show¬n<0 by omega)];apply aG;simp;apply aI;simp[b,a];refine⟨aE,?_⟩;apply aI;simp;refine⟨aE,?_⟩;refine QT.mk (j+1) (aA i [0,4,6,7] [(4,4),(57,6)] (by simp[show((D.length:Int)- 1-(j:Int)- 1)=(D.length:Int)- 1-((j:Int)+1)by omega]) (by simp[g,bD])) ?_ ?_
   .omega
   .omega
  .apply bG;simp;apply aD;simp;apply aH;have F:j=D.length:=aE;subst F;have t:D.reverse.length=D.length:=J5;have a:=nM (hd:=128+D.length) (L:=D.reverse) (j:=D.length) aE;rw[p,<-BT (hd:=128+D.length) (L:=D.reverse) (j:=D.length) aE];have b:=mU (hd:=128+D.length) (L:=D.reverse) (j:=D.length) aE;simp[a,b];intro x O c C;obtain⟨y,_,rfl⟩:=B9.1 O;simp[bD,aV]at C;subst C;rfl
end Go.Eng
