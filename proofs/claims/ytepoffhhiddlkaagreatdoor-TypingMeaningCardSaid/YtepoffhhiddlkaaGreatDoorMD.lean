/- Part 4 of the proof. No condition. -/
import Derived.Test.YtepoffhhiddlkaaGreatDoorMC
import Derived.Test.YtepoffhhiddlkaaGreatDoorProg
import Derived.KernelRfl
import Derived.OpenShut
import Derived.RangeFuncRecord
import Derived.RangeFuncIn
import Derived.RangeFuncSeq
import Derived.Shelf.SortM.Plain
import Derived.Shelf.GgSortFunc.RowK
import Derived.RangeFuncNested
import Derived.OwnWalkIn
import Derived.Lib.ConvBytes
import Derived.Laws.IdiomStrings
import Derived.Maps.RangeRun
open Go.Proofs.Tryz
set_option linter.unusedVariables false
set_option linter.unusedSimpArgs false
set_option maxRecDepth 20000
set_option maxHeartbeats 4000000
open List renaming getElem?_eq_getElem→A5,getElem?_eq_some_iff→A6,mem_of_mem_take→A7,mem_cons_of_mem→A8,getElem?_append_right→A9,getElem?_append_left→B0,map→B2,mem_map→B4,replicate→B5,eq_nil_of_length_eq_zero→B6,mem_of_mem_drop→B8,length_eraseIdx_of_lt→C6,take→C8,getElem_of_mem→C9,getElem?_take→D0,append_assoc→D7,length_take→D8,drop→D9,mem_cons_self→E9,length_append→F0,flatMap_cons→F5,size_toArray→F6,getElem?_eq_none→F9,length_cons→G0,map_cons→G4,mem_of_getElem?→G6,nodup_cons→G7,mem_cons→H4,cons_append→H5,getElem?_eraseIdx→H9,take_of_length_le→I0,take_left→I3,map_map→I6,ext_getElem?→I7,length_drop→I9,getElem_mem→J1,foldl_cons→J2,take_take→J6,range→J8,map_id→K1
open Nat renaming le_refl→A4,lt_of_lt_of_le→B3,le_trans→B9,add_mul→F4,mul_le_mul_right→G5,zero_add→H6,zero_le→I1,le_succ→I2,lt_of_not_le→I8,lt_succ_self→J0,not_lt_zero→J4,zero_mul→K0
open Int renaming tmod_lt_of_pos→I5,tmod_nonneg→J5
open Array renaming getElem?_eq_some_iff→A0,getD_eq_getD_getElem?→C0,getElem?_toList→C7,getElem?_setIfInBounds→D6,length_toList→E0,toList_filter→E8,getElem?_eq_none→F7,getElem?_setIfInBounds_ne→F8,getElem?_append_left→G9,getElem?_eq_getElem→H0,size_append→H3,getElem?_extract→H7,replicate→J3,size_map→J7,ext'→K3
open Bool renaming and_eq_true→C5,false_eq_true→G8
open Classical renaming byContradiction→J9
open UInt8 renaming ofNat→B7,toNat_ofNat'→I4
namespace Go.Eng
@[simp] abbrev rQ:cW:=⟨.int .i64,1,8,[.int .i64 0],[]⟩
@[simp] abbrev TX:cW:=⟨.bool,1,1,[.bool false],[]⟩
@[simp] abbrev Bq:cW:=⟨.int .u8,1,1,[.int .u8 0],[]⟩
@[simp] abbrev Br:cW:=⟨.str,1,16,[.string .empty],[]⟩
@[simp] abbrev vQ:cW:=⟨.int .u64,1,8,[.int .u64 0],[]⟩
@[simp] abbrev TY:cW:=⟨.int .i32,1,4,[.int .i32 0],[]⟩
@[simp] abbrev TZ:cW:=⟨.slice 3,1,24,[.slice none 0 0],[]⟩
@[simp] abbrev Ua:cW:=⟨.slice 27,1,24,[.slice none 0 0],[]⟩
@[simp] abbrev aX:cW:=⟨.other,1,8,[.nilFunc],[]⟩
@[simp] abbrev Ub:cW:=⟨.slice 30,1,24,[.slice none 0 0],[]⟩
@[simp] abbrev Oj:cW:=⟨.slice 46,1,24,[.slice none 0 0],[]⟩
@[simp] abbrev xV:cW:=⟨.struct [(0,3),(1,3)],2,16,[.int .i64 0,.int .i64 0],[.int .i64,.int .i64]⟩
@[simp] abbrev Ol:cW:=⟨.arr 2 29,4,32,[.int .i64 0,.int .i64 0,.int .i64 0,.int .i64 0],[.int .i64,.int .i64,.int .i64,.int .i64]⟩
@[simp] abbrev Om:cW:=⟨.slice 36,1,24,[.slice none 0 0],[]⟩
@[simp] abbrev CU:cW:=⟨.arr 16 5,16,16,(B5 16 (.int .u8 0)),[.int .u8,.int .u8,.int .u8,.int .u8,.int .u8,.int .u8,.int .u8,.int .u8,.int .u8,.int .u8,.int .u8,.int .u8,.int .u8,.int .u8,.int .u8,.int .u8]⟩
@[simp] abbrev On:cW:=⟨.slice 29,1,24,[.slice none 0 0],[]⟩
@[simp] abbrev Oo:cW:=⟨.slice 5,1,24,[.slice none 0 0],[]⟩
@[simp] abbrev Oq:cW:=⟨.slice 61,1,24,[.slice none 0 0],[]⟩
@[simp] abbrev Ot:cW:=⟨.slice 9,1,24,[.slice none 0 0],[]⟩
@[simp] abbrev CV:cW:=⟨.struct [(0,29),(2,36),(3,43),(4,44)],5,88,[.int .i64 0,.int .i64 0,.slice none 0 0,.slice none 0 0,.slice none 0 0],[]⟩
@[simp] abbrev Ou:cW:=⟨.slice 43,1,24,[.slice none 0 0],[]⟩
@[simp] abbrev Ov:cW:=⟨.slice 56,1,24,[.slice none 0 0],[]⟩
@[simp] abbrev CW:cW:=⟨.struct [(0,3),(1,9),(2,3),(3,54)],4,56,[.int .i64 0,.string .empty,.int .i64 0,.slice none 0 0],[]⟩
@[simp] abbrev Ow:cW:=⟨.struct [(0,9),(1,9)],2,32,[.string .empty,.string .empty],[.str,.str]⟩
@[simp] abbrev Ox:cW:=⟨.int .u32,1,4,[.int .u32 0],[]⟩
@[simp] abbrev Oy:cW:=⟨.arr 8 90,8,32,[.int .u32 0,.int .u32 0,.int .u32 0,.int .u32 0,.int .u32 0,.int .u32 0,.int .u32 0,.int .u32 0],[]⟩
@[simp] abbrev Oz:cW:=⟨.arr 64 5,64,64,(B5 64 (.int .u8 0)),[]⟩
@[simp] abbrev OA:cW:=⟨.struct [(0,91),(8,92),(72,93)],73,104,[.int .u32 0,.int .u32 0,.int .u32 0,.int .u32 0,.int .u32 0,.int .u32 0,.int .u32 0,.int .u32 0,.int .u8 0,.int .u8 0,.int .u8 0,.int .u8 0,.int .u8 0,.int .u8 0,.int .u8 0,.int .u8 0,.int .u8 0,.int .u8 0,.int .u8 0,.int .u8 0,.int .u8 0,.int .u8 0,.int .u8 0,.int .u8 0,.int .u8 0,.int .u8 0,.int .u8 0,.int .u8 0,.int .u8 0,.int .u8 0,.int .u8 0,.int .u8 0,.int .u8 0,.int .u8 0,.int .u8 0,.int .u8 0,.int .u8 0,.int .u8 0,.int .u8 0,.int .u8 0,.int .u8 0,.int .u8 0,.int .u8 0,.int .u8 0,.int .u8 0,.int .u8 0,.int .u8 0,.int .u8 0,.int .u8 0,.int .u8 0,.int .u8 0,.int .u8 0,.int .u8 0,.int .u8 0,.int .u8 0,.int .u8 0,.int .u8 0,.int .u8 0,.int .u8 0,.int .u8 0,.int .u8 0,.int .u8 0,.int .u8 0,.int .u8 0,.int .u8 0,.int .u8 0,.int .u8 0,.int .u8 0,.int .u8 0,.int .u8 0,.int .u8 0,.int .u8 0,.int .u64 0],[]⟩
@[simp] abbrev OB:cW:=⟨.arr 32 5,32,32,(B5 32 (.int .u8 0)),[]⟩
@[simp] abbrev OC:cW:=⟨.slice 128,1,24,[.slice none 0 0],[]⟩
@[simp] abbrev OD:cW:=⟨.ptr 125,1,8,[.pointer none],[]⟩
@[simp] abbrev OE:cW:=⟨.struct [(0,120),(1,57)],2,32,[.slice none 0 0,.int .i64 0],[]⟩
@[simp] abbrev CX:cW:=⟨.struct [(0,9),(1,3)],2,24,[.string .empty,.int .i64 0],[.str,.int .i64]⟩
@[simp] abbrev OF:cW:=⟨.map 9 3,1,8,[.map none],[]⟩
@[simp] abbrev OG:cW:=⟨.struct [(0,54),(1,136)],2,32,[.slice none 0 0,.map none],[]⟩
@[simp] abbrev OH:cW:=⟨.map 9 4,1,8,[.map none],[]⟩
@[simp] abbrev OI:cW:=⟨.struct [(0,3),(1,9),(2,9)],3,40,[.int .i64 0,.string .empty,.string .empty],[.int .i64,.str,.str]⟩
@[simp] abbrev OJ:cW:=⟨.map 3 4,1,8,[.map none],[]⟩
@[simp] abbrev OK:cW:=⟨.slice 162,1,24,[.slice none 0 0],[]⟩
@[simp] abbrev OL:cW:=⟨.slice 38,1,24,[.slice none 0 0],[]⟩
@[simp] abbrev OM:cW:=⟨.arr 26 9,26,416,(B5 26 (.string .empty)),[]⟩
@[simp] abbrev ON:cW:=⟨.map 3 3,1,8,[.map none],[]⟩
@[simp] abbrev OO:cW:=⟨.arr 64 90,64,256,(B5 64 (.int .u32 0)),[]⟩
@[simp] abbrev OP:cW:=⟨.arr 4 90,4,16,[.int .u32 0,.int .u32 0,.int .u32 0,.int .u32 0],[]⟩
@[simp] abbrev OQ:cW:=⟨.slice 90,1,24,[.slice none 0 0],[]⟩
@[simp] abbrev OR:cW:=⟨.arr 3 9,3,48,[.string .empty,.string .empty,.string .empty],[]⟩
@[simp] abbrev OS:cW:=⟨.slice 247,1,24,[.slice none 0 0],[]⟩
@[simp] abbrev OT:cW:=⟨.ptr 251,1,8,[.pointer none],[]⟩
@[simp] abbrev OU:cW:=⟨.struct [(0,22),(1,3)],2,32,[.slice none 0 0,.int .i64 0],[]⟩
@[simp] abbrev OV:cW:=⟨.arr 2 3,2,16,[.int .i64 0,.int .i64 0],[]⟩
@[simp] abbrev OW:cW:=⟨.arr 37 263,74,592,(B5 74 (.int .i64 0)),[]⟩
@[simp] abbrev OX:cW:=⟨.ptr 267,1,8,[.pointer none],[]⟩
@[simp] abbrev OY:cW:=⟨.struct [(0,9),(1,158),(2,3),(3,4),(4,4)],5,56,[.string .empty,.slice none 0 0,.int .i64 0,.bool false,.bool false],[]⟩
@[simp] abbrev OZ:cW:=⟨.map 57 3,1,8,[.map none],[]⟩
@[simp] abbrev Pa:cW:=⟨.ptr 3,1,8,[.pointer none],[]⟩
@[simp] abbrev Pb:cW:=⟨.ptr 56,1,8,[.pointer none],[]⟩
@[simp] abbrev Pc:cW:=⟨.ptr 281,1,8,[.pointer none],[]⟩
@[simp] abbrev Pd:cW:=⟨.ptr 326,1,8,[.pointer none],[]⟩
@[simp] abbrev Pe:cW:=⟨.slice 157,1,24,[.slice none 0 0],[]⟩
@[simp] abbrev Pf:cW:=⟨.arr 6 310,12,144,[.string .empty,.int .i64 0,.string .empty,.int .i64 0,.string .empty,.int .i64 0,.string .empty,.int .i64 0,.string .empty,.int .i64 0,.string .empty,.int .i64 0],[.str,.int .i64,.str,.int .i64,.str,.int .i64,.str,.int .i64,.str,.int .i64,.str,.int .i64]⟩
@[simp] abbrev Pg:cW:=⟨.arr 24 5,24,24,(B5 24 (.int .u8 0)),[]⟩
@[simp] abbrev Ph:cW:=⟨.slice 310,1,24,[.slice none 0 0],[]⟩
@[simp] abbrev Pi:cW:=⟨.arr 20 93,20,160,(B5 20 (.int .u64 0)),[]⟩
@[simp] abbrev Pj:cW:=⟨.arr 65 5,65,65,(B5 65 (.int .u8 0)),[]⟩
@[simp] abbrev Pk:cW:=⟨.ptr 5,1,8,[.pointer none],[]⟩
@[simp] abbrev Pl:cW:=⟨.ptr 340,1,8,[.pointer none],[]⟩
@[simp] abbrev Pm:cW:=⟨.struct [(0,9)],1,16,[.string .empty],[.str]⟩
def Ft:List (Nat×cW):=
 [(2,rQ),(3,rQ),(4,TX),(5,Bq),(6,Bq),(9,Br),(10,Br),(11,Br),(12,vQ),(21,TY),(22,TZ),(23,Ua),(24,aX),(25,Ub),(26,aX),(27,Oj),(28,xV),(29,xV),(30,Ol),(31,Om),(32,aX),(33,CU),(34,CU),(35,aX),(36,On),(37,aX),(38,Oo),(39,aX),(40,aX),(41,aX),(42,aX),(43,Oq),(44,Ot),(45,CV),(46,CV),(47,aX),(48,aX),(49,aX),(50,aX),(51,Ou),(52,aX),(53,aX),(54,Ov),(55,CW),(56,CW),(57,rQ),(59,aX),(61,Ow),(63,aX),(64,aX),(65,aX),(67,aX),(68,aX),(71,aX),(72,aX),(77,aX),(78,aX),(79,aX),(80,aX),(81,aX),(82,aX),(85,aX),(87,aX),(90,Ox),(91,Oy),(92,Oz),(93,vQ),(95,OA),(96,aX),(97,aX),(99,OB),(100,aX),(103,aX),(106,aX),(110,aX),(114,aX),(115,aX),(117,aX),(119,aX),(120,OC),(122,aX),(123,OD),(125,OE),(126,aX),(128,CX),(129,aX),(131,aX),(132,aX),(136,OF),(138,OG),(140,aX),(143,aX),(144,OH),(145,aX),(146,aX),(149,OI),(151,aX),(152,aX),(155,OJ),(157,aX),(158,OK),(162,xV),(165,aX),(166,vQ),(167,aX),(171,aX),(173,aX),(174,aX),(176,aX),(179,aX),(181,aX),(182,aX),(185,OL),(199,aX),(204,OM),(213,aX),(214,ON),(219,aX),(229,OO),(231,OP),(232,OQ),(235,rQ),(247,OR),(248,OS),(249,OT),(251,OU),(263,OV),(264,OW),(265,OX),(267,OY),(270,OZ),(271,aX),(281,vQ),(285,Pa),(289,Pb),(297,Pc),(302,rQ),(305,Pd),(308,Pe),(310,CX),(311,Pf),(313,Pg),(320,Ph),(321,aX),(329,Pi),(330,Pj),(337,Pk),(338,Pl),(340,Pm),(346,Bq)]
def T:TypeId->cW:=pA Ft
theorem hT:fW prog T:=Qy (by kernel_rfl)
theorem hW:Cd T:=To (by kernel_rfl)
@[simp] theorem t2:T 2=rQ:=by kernel_rfl
@[simp] theorem t3:T 3=rQ:=by kernel_rfl
@[simp] theorem t4:T 4=TX:=by kernel_rfl
@[simp] theorem t5:T 5=Bq:=by kernel_rfl
@[simp] theorem t6:T 6=Bq:=by kernel_rfl
@[simp] theorem t9:T 9=Br:=by kernel_rfl
@[simp] theorem t10:T 10=Br:=by kernel_rfl
@[simp] theorem t11:T 11=Br:=by kernel_rfl
@[simp] theorem t12:T 12=vQ:=by kernel_rfl
@[simp] theorem t21:T 21=TY:=by kernel_rfl
@[simp] theorem t22:T 22=TZ:=by kernel_rfl
@[simp] theorem t23:T 23=Ua:=by kernel_rfl
@[simp] theorem t24:T 24=aX:=by kernel_rfl
@[simp] theorem t25:T 25=Ub:=by kernel_rfl
@[simp] theorem t26:T 26=aX:=by kernel_rfl
@[simp] theorem t27:T 27=Oj:=by kernel_rfl
@[simp] theorem t28:T 28=xV:=by kernel_rfl
@[simp] theorem t29:T 29=xV:=by kernel_rfl
@[simp] theorem t30:T 30=Ol:=by kernel_rfl
@[simp] theorem t31:T 31=Om:=by kernel_rfl
@[simp] theorem t32:T 32=aX:=by kernel_rfl
@[simp] theorem t33:T 33=CU:=by kernel_rfl
@[simp] theorem t34:T 34=CU:=by kernel_rfl
@[simp] theorem t35:T 35=aX:=by kernel_rfl
@[simp] theorem t36:T 36=On:=by kernel_rfl
@[simp] theorem t37:T 37=aX:=by kernel_rfl
@[simp] theorem t38:T 38=Oo:=by kernel_rfl
@[simp] theorem t39:T 39=aX:=by kernel_rfl
@[simp] theorem t40:T 40=aX:=by kernel_rfl
@[simp] theorem t41:T 41=aX:=by kernel_rfl
@[simp] theorem t42:T 42=aX:=by kernel_rfl
@[simp] theorem t43:T 43=Oq:=by kernel_rfl
@[simp] theorem t44:T 44=Ot:=by kernel_rfl
@[simp] theorem t45:T 45=CV:=by kernel_rfl
@[simp] theorem t46:T 46=CV:=by kernel_rfl
@[simp] theorem t47:T 47=aX:=by kernel_rfl
@[simp] theorem t48:T 48=aX:=by kernel_rfl
@[simp] theorem t49:T 49=aX:=by kernel_rfl
@[simp] theorem t50:T 50=aX:=by kernel_rfl
@[simp] theorem t51:T 51=Ou:=by kernel_rfl
@[simp] theorem t52:T 52=aX:=by kernel_rfl
@[simp] theorem t53:T 53=aX:=by kernel_rfl
@[simp] theorem t54:T 54=Ov:=by kernel_rfl
@[simp] theorem t55:T 55=CW:=by kernel_rfl
@[simp] theorem t56:T 56=CW:=by kernel_rfl
@[simp] theorem t57:T 57=rQ:=by kernel_rfl
@[simp] theorem t59:T 59=aX:=by kernel_rfl
@[simp] theorem t61:T 61=Ow:=by kernel_rfl
@[simp] theorem t63:T 63=aX:=by kernel_rfl
@[simp] theorem t64:T 64=aX:=by kernel_rfl
@[simp] theorem t65:T 65=aX:=by kernel_rfl
@[simp] theorem t67:T 67=aX:=by kernel_rfl
@[simp] theorem t68:T 68=aX:=by kernel_rfl
@[simp] theorem t71:T 71=aX:=by kernel_rfl
@[simp] theorem t72:T 72=aX:=by kernel_rfl
@[simp] theorem t77:T 77=aX:=by kernel_rfl
@[simp] theorem t78:T 78=aX:=by kernel_rfl
@[simp] theorem t79:T 79=aX:=by kernel_rfl
@[simp] theorem t80:T 80=aX:=by kernel_rfl
@[simp] theorem t81:T 81=aX:=by kernel_rfl
@[simp] theorem t82:T 82=aX:=by kernel_rfl
@[simp] theorem t85:T 85=aX:=by kernel_rfl
@[simp] theorem t87:T 87=aX:=by kernel_rfl
@[simp] theorem t90:T 90=Ox:=by kernel_rfl
@[simp] theorem t91:T 91=Oy:=by kernel_rfl
@[simp] theorem t92:T 92=Oz:=by kernel_rfl
@[simp] theorem t93:T 93=vQ:=by kernel_rfl
@[simp] theorem t95:T 95=OA:=by kernel_rfl
@[simp] theorem t96:T 96=aX:=by kernel_rfl
@[simp] theorem t97:T 97=aX:=by kernel_rfl
@[simp] theorem t99:T 99=OB:=by kernel_rfl
@[simp] theorem aBB:T 100=aX:=by kernel_rfl
@[simp] theorem aBC:T 103=aX:=by kernel_rfl
@[simp] theorem aBD:T 106=aX:=by kernel_rfl
@[simp] theorem aBE:T 110=aX:=by kernel_rfl
@[simp] theorem aBF:T 114=aX:=by kernel_rfl
@[simp] theorem aBG:T 115=aX:=by kernel_rfl
@[simp] theorem aBH:T 117=aX:=by kernel_rfl
@[simp] theorem aBI:T 119=aX:=by kernel_rfl
@[simp] theorem aBJ:T 120=OC:=by kernel_rfl
@[simp] theorem aBK:T 122=aX:=by kernel_rfl
@[simp] theorem aBL:T 123=OD:=by kernel_rfl
@[simp] theorem aBM:T 125=OE:=by kernel_rfl
@[simp] theorem aBN:T 126=aX:=by kernel_rfl
@[simp] theorem aBO:T 128=CX:=by kernel_rfl
@[simp] theorem aBP:T 129=aX:=by kernel_rfl
@[simp] theorem aBQ:T 131=aX:=by kernel_rfl
@[simp] theorem aBR:T 132=aX:=by kernel_rfl
@[simp] theorem aBb:T 136=OF:=by kernel_rfl
@[simp] theorem aBS:T 138=OG:=by kernel_rfl
@[simp] theorem aBT:T 140=aX:=by kernel_rfl
@[simp] theorem t143:T 143=aX:=by kernel_rfl
@[simp] theorem aBc:T 144=OH:=by kernel_rfl
@[simp] theorem t145:T 145=aX:=by kernel_rfl
@[simp] theorem aBU:T 146=aX:=by kernel_rfl
@[simp] theorem aBV:T 149=OI:=by kernel_rfl
@[simp] theorem aBW:T 151=aX:=by kernel_rfl
@[simp] theorem aBX:T 152=aX:=by kernel_rfl
@[simp] theorem aAs:T 155=OJ:=by kernel_rfl
@[simp] theorem aBY:T 157=aX:=by kernel_rfl
@[simp] theorem aBZ:T 158=OK:=by kernel_rfl
@[simp] theorem aB0:T 162=xV:=by kernel_rfl
@[simp] theorem aB1:T 165=aX:=by kernel_rfl
@[simp] theorem aB2:T 166=vQ:=by kernel_rfl
@[simp] theorem t167:T 167=aX:=by kernel_rfl
@[simp] theorem t171:T 171=aX:=by kernel_rfl
@[simp] theorem t173:T 173=aX:=by kernel_rfl
@[simp] theorem aB3:T 174=aX:=by kernel_rfl
@[simp] theorem aB4:T 176=aX:=by kernel_rfl
@[simp] theorem aB5:T 179=aX:=by kernel_rfl
@[simp] theorem aB6:T 181=aX:=by kernel_rfl
@[simp] theorem aB7:T 182=aX:=by kernel_rfl
@[simp] theorem aB8:T 185=OL:=by kernel_rfl
@[simp] theorem aB9:T 199=aX:=by kernel_rfl
@[simp] theorem aCa:T 204=OM:=by kernel_rfl
@[simp] theorem t213:T 213=aX:=by kernel_rfl
@[simp] theorem aCb:T 214=ON:=by kernel_rfl
@[simp] theorem aCc:T 219=aX:=by kernel_rfl
@[simp] theorem aCd:T 229=OO:=by kernel_rfl
@[simp] theorem aCe:T 231=OP:=by kernel_rfl
@[simp] theorem t232:T 232=OQ:=by kernel_rfl
@[simp] theorem aCf:T 235=rQ:=by kernel_rfl
@[simp] theorem aCg:T 247=OR:=by kernel_rfl
@[simp] theorem aCh:T 248=OS:=by kernel_rfl
@[simp] theorem aCi:T 249=OT:=by kernel_rfl
@[simp] theorem aCj:T 251=OU:=by kernel_rfl
@[simp] theorem aCk:T 263=OV:=by kernel_rfl
@[simp] theorem aCl:T 264=OW:=by kernel_rfl
@[simp] theorem aCm:T 265=OX:=by kernel_rfl
@[simp] theorem aCn:T 267=OY:=by kernel_rfl
@[simp] theorem aCo:T 270=OZ:=by kernel_rfl
@[simp] theorem aCp:T 271=aX:=by kernel_rfl
@[simp] theorem aCq:T 281=vQ:=by kernel_rfl
@[simp] theorem aCr:T 285=Pa:=by kernel_rfl
@[simp] theorem aCs:T 289=Pb:=by kernel_rfl
@[simp] theorem aCt:T 297=Pc:=by kernel_rfl
@[simp] theorem aCu:T 302=rQ:=by kernel_rfl
@[simp] theorem aCv:T 305=Pd:=by kernel_rfl
@[simp] theorem aCw:T 308=Pe:=by kernel_rfl
@[simp] theorem aCx:T 310=CX:=by kernel_rfl
@[simp] theorem aCy:T 311=Pf:=by kernel_rfl
@[simp] theorem aCz:T 313=Pg:=by kernel_rfl
@[simp] theorem aCA:T 320=Ph:=by kernel_rfl
@[simp] theorem aCB:T 321=aX:=by kernel_rfl
@[simp] theorem aCC:T 329=Pi:=by kernel_rfl
@[simp] theorem aCD:T 330=Pj:=by kernel_rfl
@[simp] theorem aCE:T 337=Pk:=by kernel_rfl
@[simp] theorem aCF:T 338=Pl:=by kernel_rfl
@[simp] theorem aCG:T 340=Pm:=by kernel_rfl
@[simp] theorem aCH:T 346=Bq:=by kernel_rfl
open Go.RowKit
def IsRow(k:IntKind)(w:World)(a:Option Addr)(len cap:Nat)(zs:List Int):Prop:=
 (a=none/\len=0/\cap=0/\zs=[])\/
 ∃x,a=some x/\len<=cap/\cap<=maxLen/\zs.length=cap/\(∀i,i<zs.length->w.cell? (x.add i)=some (.int k (zs.getD i 0)))/\∀n∈zs,(Lit.int k n).wf=true
theorem Xw{n:Int}(h:(Lit.int .i64 n).wf=true): -9223372036854775808<=n/\n<=9223372036854775807:=by
 simp only[Lit.wf,C5,decide_eq_true_eq,IntKind.min,IntKind.max,IntKind.signed,IntKind.bits]at h;exact⟨h.1,h.2⟩
theorem aA4{w:World}{a:Option Addr}{b d:Nat}{e:List Int}(h:IsRow .i64 w a b d e):∀n∈e.take b, -9223372036854775808<=n/\n<=9223372036854775807:=λn c=>by
 have c:=A7 c;rcases h with⟨_,_,_,rfl⟩|⟨x,_,_,_,_,_,h⟩
 .cases c
 .exact Xw (h n c)
theorem aBd{w:World}{k:IntKind}{a:Option Addr}{c g:Nat}{f:List Int}(h:IsRow k w a c g f):RD w (λ_=>False) (.sl ((f.take c).map (.int k))) (.slice a c g):=by
 rcases h with⟨rfl,rfl,rfl,rfl⟩|⟨x,rfl,D,A,I,F,J⟩
 .exact .sl0 _ 0 (I1 _)
 .by_cases C:c=0
  .subst C;rw[List.take_zero];exact .sl0 _ g A
  .obtain⟨b,o,rfl,B⟩:=ints_at F aD;have p:((f.take c).map (DV.int k)).length=c:=kH;have r:bZ ((f.take c).map (DV.int k))=(f.take c).map (DV.int k):=by
    unfold bZ;rw[List.flatMap_map];induction f.take c with
    |nil=>rfl
    |cons a l ih=>rw[F5,ih];rfl
   have:=RD.sl (w:=w) (E:=λ_=>False) ((f.take c).map (.int k)) b o g 1 ((f.take c).map (.int k)) (λe=>by rw[e]at p;simp at p;omega) (λh=>h) (λx H=>by obtain⟨n,_,rfl⟩:=B4.1 H;rfl)
    (by rw[p];exact D) A bA (λu G=>by obtain⟨n,_,rfl⟩:=B4.1 G;rfl) (WY (B 0 aD)) (λj u s=>by
      have t:j<c:=by
       have:=(A6.1 s).1;simp at this;omega
      have z:j<f.length:=aD;have:=B j z;rw[this];simp[t,z]at s;simp[z,s]) (λi d v m y=>by
      rw[r]at m;simp only[List.getElem?_map]at m y;cases q:(f.take c)[i]? with
      |none=>rw[q]at m;cases m
      |some n=>rw[q]at m y;cases m;cases y;exact .int k n)
   rw[p]at this;exact this
theorem Lq.nil{w:World}{E:Nat->Prop}:Lq w E [] []:=⟨rfl,λi c v h=>by simp at h⟩
theorem Lq.cons{w:World}{E:Nat->Prop}{d:DV}{v:Value}{e:List DV}{vs:List Value}(h:RD w E d v)(f:Lq w E e vs):Lq w E (d::e) (v::vs):=
 ⟨by simp[f.1],λi c u a b=>by
   cases i with
   |zero=>simp at a b;subst a;subst b;exact h
   |succ i=>exact f.2 i c u (by simpa using a) (by simpa using b)⟩
theorem aAj{P:Program}{f:FuncId}{a:List DV}{c:Bool}(h:Ok P f a ⟨.d (.bool true),c⟩)(w:World)(b:List Value)(l:Lq w (λ_=>False) a b)(k:zI w (λ_=>False):=by intro n o h;simp[Go.Eng.globD]at h):
 Calls P f b.toArray w λe m=>e=.returned (.bool true)/\Below w.heap.size w m:=
 (h.2 w (λ_=>False) b ⟨λ_ h=>h.elim,k⟩ l).mono λ_ _ ⟨v,d,g,i⟩=>by
   obtain⟨_,j⟩:=i;cases j;exact⟨d,g.below⟩
theorem Bi.own_d{w r:World}{E t:Nat->Prop}{B:Option Nat}{s:Nat}{m:List DV}{v:Value}(h:Bi w r E B (.own s m) v)(I:∀k,t k->k<w.heap.size)(x:∀k,t k->E k):RD r t (.sl m) v:=by
 obtain⟨N,o,h⟩:=h;rcases h with⟨_,rfl,a,rfl⟩|⟨b,c,g,e,_,rfl,M,l,G,F,y,f⟩
 .exact .sl0 a 0 (I1 _)
 .by_cases H:m=[]
  .subst H;exact .sl0 _ c F
  .have z:=flat_len o;have K:m.length*s<=g.size:=by rw[<-y];exact G5 _ G
   have D:b<r.heap.size:=(A0.1 l).1;refine .sl m b 0 c s (g.toList.take (m.length*s)) H (λq=>by have:=I b q;omega) o G F kH (λu L=>?_) D (λj u n=>?_) (λi d v J p=>?_)
   .obtain⟨j,n,rfl⟩:=C9 L;simp only[D8,E0]at n;have A:j<g.size:=aD;have C:j<(bZ m).length:=by rw[z];omega
    simp only[List.getElem_take,Array.getElem_toList];exact(f j _ _ (A5 C) (H0 A)).1
   .rw[cell_of_row r b _ g e (0,0) l,H6];rw[D0]at n;split at n
    .simpa using n
    .cases n
   .rw[D0]at p;split at p
    .exact((f i d v J (by simpa using p)).2).anti x
    .cases p
theorem FW{P:Program}{f:FuncId}{a:List DV}{s:Nat}{j:List DV}{y:DV}{c:Bool}(h:Ok P f a ⟨.tup [.own s j,.d y],c⟩):Ok P f a ⟨.tup [.d (.sl j),.d y],c⟩:=
 ⟨h.1,λw X x e p=>(h.2 w X x e p).mono λ_ _ ⟨v,l,m,t,B,n,o,z,d⟩=>
   ⟨v,l,m,t,λ_=>none,n,o,λ_ _ _ q=>(by cases q),λi r u b g=>by
     match i,b with
     |0,b=>
      cases b;exact(d 0 _ u rfl g).own_d (λk q=>by
       rcases q with(q|⟨_,q⟩)|⟨_,q⟩
       .exact e.1 k q
       .exact q
       .cases q) (λk q=>by
       rcases q with q|⟨_,q⟩
       .exact .inl q
       .cases q)
     |1,b=>
      cases b;exact RD.anti (λk q=>by
       rcases q with q|⟨_,q⟩
       .exact .inl q
       .cases q) (d 1 _ u rfl g)⟩⟩
section
open Go.RowKit
section
variable{P:Program} {T:TypeId->cW} {w0:dE} {X:Nat->Prop} {env:eG} {H:dP}
def Pn(w0:dE)(T:TypeId->cW)(t:Nat)(ty:TypeId)(fin:List (Nat×bJ))(ret:LV)(x:LX)(env:eG)(H:dP):Prop:=
 (match x with| .exit _=>False|_=>True)/\(qZ T H ty (env t)).ok/\iO w0 (bB [(0,(qZ T H ty (env t)).v)]) H (bB [(0,ret)]) (aK fin)
theorem bO{t:Nat}{c:TypeId}{a:List (Nat×bJ)}{b:LV}:Pn w0 T t c a b .ret env H↔(qZ T H c (env t)).ok/\iO w0 (bB [(0,(qZ T H c (env t)).v)]) H (bB [(0,b)]) (aK a):=by simp[Pn]
theorem mH.cell(hT:fW P T){f:FuncId}{k:Func}{c:Code}{b:List LV}{h j:List (Nat×bJ)}{d:LV}{n t:Nat}{m:TypeId}(z:P.funcs[f]? =some k)(i:(k.name== "runtime.NumGoroutine")=false)(y:k.body=some c)(A:k.ntmps=n)(g:b.length<=n)(l:k.results= #[.cell t m])
 (E:∀w0 X,w0.pins=h.map (·.1)->fF P n w0 X c (Pn w0 T t m j d) (HA b) (aK h)):mH P f b h j d:=
 vP z i y A g λw0 X B=>(E w0 X B).mono λx env H ⟨q,r,u⟩=>⟨q,λβ a w s=>by
  obtain⟨v,D,C⟩:=vO hT s r;have F:mG 1 w0 X (bB [(0,(qZ T H m (env t)).v)]) H β ⟨#[v],[]⟩ w:=by
   refine⟨FA.nil,rfl,s.ext,s.xold,s.fresh,s.inj,λp=>?_,s.obj,s.pin⟩;cases p with
   |zero=>exact C
   |succ p=>exact .junk _
  obtain⟨G,o⟩:=u _ _ _ _ _ F;have e:=o.env 0;rw[show bB [(0,d)] 0=d by simp[bB,oZ]]at e;refine⟨v,G,?_,o.mem,e⟩;simp only[results,l];simpa [Sem.run_bind,Result.andThen]using D⟩
theorem cP{l:LV}{x:DV}{a:eG}{b:dP}(h:Eng.close H 8 l=some x)(k:iO w0 (bB [(0,.d x)]) (cD H (bP H (bX H 8 l))) a b):iO w0 (bB [(0,l)]) H a b:=by
 have e:cQ (bB [(0,l)]) 0 (.d x)=bB [(0,.d x)]:=by
  funext j;by_cases q:j=0
  .subst q;rfl
  .rw[cO _ _ q];simp[bB,oZ,q,Ne.symm q]
 have z:bB [(0,l)] 0=l:=by simp[bB,oZ]
 have c:=iO.close (w0:=w0) (H:=H) (env:=bB [(0,l)]) 0 (x:=x) (by rw[z];exact h);rw[e,z]at c;exact c.trans k
theorem Uc{β:Nat->Option Nat}{w:World}(m:dV w0 X H β w){id b:Nat}(e:(H id).live=true)(h:(H id).mut=false)(d:β id=some b):¬Ex X β H b:=λc=>by
 have g:=m.fresh id b e d;rcases c with c|⟨i,a,f⟩
 .rcases g.1 with a|a
  .have:=(m.xold.1 b c).1;omega
  .exact(m.xold.1 b c).2 a.1
 .have:=m.inj i id b (bS a) e f d;subst this;rw[h]at a;cases a
theorem iO.freeze(ids:List Nat):iO w0 env H env (cD H (bP H ids)):=λN X β a w s=>by
 obtain⟨m,g⟩:=s.mem.freeze ids;exact⟨β,g.marks s.defers,s.size,m.ext,m.xold,m.fresh,m.inj,λu=>g.R (s.env u),m.obj,m.pin⟩
theorem iO.shut(b:Nat){l:Bool}{g:List LV}{j:List DV}(q:H b=.box l g)(h:cS (g.map (Eng.close H 8))=some j)(x:∀c∈g,∀id∈bX H 8 c,(H id).mut=false):iO w0 env H env (cQ H b (.box l (j.map .d))):=λN X β a w s=>by
 obtain⟨o,p⟩:=jF h;obtain⟨e,m⟩:=s.mem.rebox (cs':=j.map .d) q (by simp[o]) (λi c y v n k t=>by
  obtain⟨d,r,rfl⟩:=eJ k;have f:=p i _ _ n r;exact .d _ _ (nZ s.mem.obj (λ_ _ h=>h) 8 c d v f (λid hid b hb=>Uc s.mem (mS 8 c d f id hid) (x c (G6 n) id hid) hb) t))
 exact⟨β,m.marks s.defers,s.size,e.ext,e.xold,e.fresh,e.inj,λu=>m.R (s.env u),e.obj,e.pin⟩
theorem cB(b:Nat)(a:List Nat){fz:Bool}{cs:List LV}{ds:List DV}(hH:H b=.box fz cs)(d:b∉a)(h:cS (cs.map (Eng.close (cD H (bP H a)) 8))=some ds)
 (e:∀c∈cs,∀id∈bX (cD H (bP H a)) 8 c,(cD H (bP H a) id).mut=false):iO w0 env H env (cQ (cD H (bP H a)) b (.box fz (ds.map .d))):=
 (iO.freeze a).trans (iO.shut b (by rw[eY,if_neg d];exact hH) h e)
theorem Mn{ι:Type}{E:ι->eG}{O:ι->dP}{I:ι->Prop}{μ:ι->Nat}{i:ι}{a:eG}{b:dP}(h:iO w0 env H a b)(k:Oe w0 E O I μ i a b):Oe w0 E O I μ i env H:=by
 obtain⟨j,c,r⟩:=k;exact⟨j,h.trans c,r⟩
theorem iF{ι:Type}{E:ι->eG}{O:ι->dP}{I:ι->Prop}{a:eG}{b:dP}(h:iO w0 env H a b)(k:∃i,iO w0 a b (E i) (O i)/\I i):∃i,iO w0 env H (E i) (O i)/\I i:=by
 obtain⟨i,c,r⟩:=k;exact⟨i,h.trans c,r⟩
end
end
section
open Go.RowKit
section
variable{P:Program} {N:Nat} {w0:dE} {X:Nat->Prop} {Q:LX->eG->dP->Prop} {env:eG} {H:dP}
theorem lB{c:Code}(b j id s:Nat){fz:Bool}{cs:List LV}(z:0<s)(h:H b=.box fz cs/\cs[j]? =some .nl/\H id=.absent/\fF P N w0 X c Q env (cQ (cQ H id (.row false s [])) b (.box fz (cs.set j (.ow id 0 0))))):fF P N w0 X c Q env H:=by
 obtain⟨n,x,k,h⟩:=h;have o:b≠id:=λe=>by rw[e,k]at n;cases n
 intro r l β a w m;obtain⟨A,q⟩:=uY m.mem k z;obtain⟨f,u⟩:=A.rebox (b:=b) (fz:=fz) (cs:=cs) (cs':=cs.set j (.ow id 0 0)) (by rw[cO _ _ o];exact n) bA λi c B v g d l=>by
  rw[List.getElem?_set]at d;by_cases e:j=i
  .subst e;rw[x]at g;injection g with g;subst g
   have y:=(A6.1 x).1;simp[y]at d;subst d;cases l with|nl p=>exact .ow0 id 0 p false s [] (by rw[aW]) (.inl ⟨by rw[aW],rfl⟩)
  .simp only[e,if_false]at d;rw[g]at d;injection d with d;subst d
   exact l
 exact h r l _ a w ⟨u.marks (q.marks m.defers),m.size,f.ext,f.xold,f.fresh,f.inj,λt=>u.R (q.R (m.env t)),f.obj,f.pin⟩
end
end
section
open Go.RowKit
structure Xx where
 ds:List DV
 vs:List Value
 rd:∀w E,Lq w E ds vs
def Ud(P:Program)(f:FuncId)(caps:List DV)(items:List Xx):Prop:=
 pW P f/\∀(w:World) (X:Nat->Prop) (lb:List Value) (l:Nat) (J:(Nat->Prop)->Nat->World->Prop),WZ w X->Lq w X caps lb->
  (∀W,Ah w.heap.size w W->J (λk=>w.heap.size<=k/\k<W.heap.size) 0 W)->
  (∀K i W W',J K i W->Ah W.heap.size W W'->J (λk=>K k\/W.heap.size<=k/\k<W'.heap.size) i W')->
  (∀K i W (x:Xx),J K i W->items[i]? =some x->YieldAt Fence.wide 0 P l x.vs.toArray W λe W'=>e=.returned (.bool true)/\J K (i+1) W'/\W.heap.size<=W'.heap.size/\∀k,K k\/(k<w.heap.size/\¬X k)->W'.heap[k]? =W.heap[k]?)->
  Calls P f (#[.func (.yield l) #[] #[]]++lb.toArray) w λe W'=>(∃v,e=.returned v)/\∃K,J K items.length W'
section
variable{P:Program} {T:TypeId->cW} {N:Nat} {w0:dE} {X:Nat->Prop} {Q:LX->eG->dP->Prop} {env:eG} {H H':dP} {β β':Nat->Option Nat} {w w':World}
theorem dV.rebase(m:dV w0 X H β w)(a:List Nat)(l:∀id,H id≠ .absent->id∈a):dV ⟨w,β,H,a,true⟩ X H β w:=by
 have i:∀{id},(H id).live=true->id∈a:=λ{id} h=>l id λe=>by rw[e]at h;cases h
 have c:∀k,dE.mine ⟨w,β,H,a,true⟩ k->w0.w.heap.size<=k\/w0.mine k:=λk ⟨id,_,d,f⟩=>(m.fresh id k d f).1.imp (λh=>h) And.left;refine⟨⟨rfl,rfl,rfl,A4 _,λ_ _ _=>rfl,A4 _⟩,⟨λk g=>⟨?_,?_⟩,?_⟩,λid b h hb=>⟨.inr ⟨⟨id,i h,h,hb⟩,λj=>⟨id,i h,j,hb⟩⟩,(m.fresh id b h hb).2⟩,m.inj,m.obj,λid _=>bW.refl id⟩
 .exact B3 (m.xold.1 k g).1 m.ext.size
 .intro h;rcases c k h with h|h
  .have:=(m.xold.1 k g).1;omega
  .exact(m.xold.1 k g).2 h
 .refine m.globL.anti λk h=>h.imp (λh=>h) ?_;rintro⟨id,_,d,f⟩;exact⟨id,d,f⟩
theorem dV.unbase{e:List Nat}(m:dV w0 X H β w)(u:∀id,H id≠ .absent->id∈e)(c:dV ⟨w,β,H,e,true⟩ X H' β' w'):dV w0 X H' β' w'/\fB X H β w H' β' w':=by
 have d:∀id,bW w β H w' β' H' id:=λid=>by
  by_cases h:H id=.absent
  .unfold bW;rw[h];trivial
  .exact c.pin id (u id h)
 have a:∀k,dE.own ⟨w,β,H,e,true⟩ k->∃id,(H id).mut=true/\β id=some k:=λk ⟨id,_,f,l⟩=>⟨id,f,l⟩;have g:fB X H β w H' β' w':=by
  refine⟨c.ext.size,λk n o=>c.ext.block k n λh=>o (.inr (a k h)),λk n h=>?_,d⟩;rcases h with h|⟨id,f,l⟩
  .exact .inl h
  .rcases(c.fresh id k (bS f) l).1 with h|h
   .exact absurd n (Nat.not_lt.2 h)
   .exact .inr (a k (h.2 f))
 refine⟨⟨⟨c.ext.os.trans m.ext.os,c.ext.tape.trans m.ext.tape,c.ext.output.trans m.ext.output,B9 m.ext.size c.ext.size,λk n o=>?_,B9 m.ext.drawn c.ext.drawn⟩,m.xold,λid b hl hb=>⟨?_,(c.fresh id b hl hb).2⟩,c.inj,c.obj,
  λid hid=>(m.pin id hid).trans (d id)⟩,g⟩
 .refine(c.ext.block k (B3 n m.ext.size) λh=>?_).trans (m.ext.block k n o);obtain⟨id,f,l⟩:=a k h;rcases(m.fresh id k (bS f) l).1 with h|h
  .omega
  .exact o (h.2 f)
 .rcases(c.fresh id b hl hb).1 with h|⟨⟨i,_,f,l⟩,r⟩
  .exact .inl (B9 m.ext.size h)
  .rcases(m.fresh i b f l).1 with h|⟨h,q⟩
   .exact .inl h
   .refine .inr ⟨h,λt=>?_⟩;obtain⟨j,p,s⟩:=a b (r t);have:i=j:=m.inj i j b f (bS p) l s;subst this;exact q p
theorem fB.still{a:dP}{c:Nat->Option Nat}{u:World}{l:Nat}{o:Obj}(g:fB X a c u H β w)(b:Obj)(h:w.heap[l]? =some o)(d:rW o=false)(i:u.heap.size<=l):fB X a c u H β (w.putObj l b):=
 ⟨by rw[World.putObj_size];exact g.size,λk e f=>(World.putObj_heap_other aD).trans (g.blk k e f),g.sub,λid=>(g.pass id).trans (zM b h d id)⟩
theorem dV.forget(m:dV w0 X H β w)(a:List Nat)(d:a.Nodup)(i:∀id∈w0.pins,id∈a):
 ∃β',dV w0 X (aK (a.map λp=>(p,cX (a.map λp=>(p,p)) (H p)))) β' w/\(∀id∈a,β' id=β id/\aK (a.map λp=>(p,cX (a.map λp=>(p,p)) (H p))) id=cX (a.map λp=>(p,p)) (H id))/\
  (∀id,(aK (a.map λp=>(p,cX (a.map λp=>(p,p)) (H p))) id).live=true->id∈a):=by
 have b:∀l:List Nat,∀id∈l,dL (l.map λp=>(p,p)) id=some id:=λl id h=>by
  induction l with
  |nil=>cases h
  |cons p r ih=>
   by_cases e:id=p
   .simp[dL,e]
   .simp only[G4,dL,if_neg e];exact ih ((H4.1 h).resolve_left e)
 have s:mG 0 w0 X (λ_=>.junk) H β ⟨#[],[]⟩ w:=⟨FA.nil,rfl,m.ext,m.xold,m.fresh,m.inj,λ_=>.junk _,m.obj,m.pin⟩;obtain⟨β',g,h⟩:=Oc [] (a.map λp=>(p,p)) (by rw[I6,show((λx:Nat×Nat=>x.snd)∘λp=>(p,p))=id from rfl,K1];exact d) (by rw[I6,show((λx:Nat×Nat=>x.fst)∘λp=>(p,p))=id from rfl,K1];exact d) (λid hid=>b a id (i id hid)) 0 X β _ w s;simp only[I6]at g h;refine⟨β',g.mem,λid hid=>⟨(h id id (b a id hid)).2,(h id id (b a id hid)).1⟩,λid hl=>?_⟩;have c:∀(l:List Nat) (f:Nat->bJ),(fN (l.map λp=>(p,f p)) id).live=true->id∈l:=λl f=>by
  induction l with
  |nil=>intro h;cases h
  |cons p r ih=>
   intro h;by_cases e:id=p
   .simp[e]
   .simp only[G4,fN,if_neg e]at h;exact A8 _ (ih h)
 exact c a _ hl
def vR(env:eG):List Nat->List DV->eG
 |p::ps,d::ds=>vR (cQ env p (.d d)) ps ds
 |_,_=>env
theorem Ue{E:Nat->Prop}:∀(g:List Nat) (a:List DV) (f:List Value) (env:eG) (b:Array Value),f.length=g.length->Lq w E a f->(∀p∈g,p<b.size)->(∀t,Eng.R w E β H (env t) (b.getD t undef))->
 ∀t,Eng.R w E β H (vR env g a t) (((g.zip f).foldl (λb (p,v)=>b.setIfInBounds p v) b).getD t undef):=by
 intro g;induction g with
 |nil=>intro a f env b j _ _ h;cases a<;>exact h
 |cons p g ih=>
  intro a f env b j k l h
  match f,j with
  |v::f,j=>
  match a,k.1 with
  |d::a,hrl=>
  simp only[List.zip_cons_cons,J2,vR];refine ih a f _ _ (by simpa using j) ⟨by simpa using hrl,λi c u m r=>k.2 (i+1) c u (by simpa using m) (by simpa using r)⟩ (λq o=>by simp;exact l q (A8 _ o)) λt=>?_;have n:p<b.size:=l p (E9 ..);unfold cQ;by_cases e:t=p
  .subst e;simp[C0,n];exact .d _ _ (k.2 0 d v rfl rfl)
  .rw[if_neg e];have:=h t;simp only[C0]at this|-
   rwa[F8 (Ne.symm e)]
theorem DX:∀(l:List (Nat×Value)) (a:Array Value),(l.foldl (λa (p,v)=>a.setIfInBounds p v) a).size=a.size
 |[],_=>rfl
 |x::l,a=>by simp only[J2];rw[DX l];simp
theorem Rd:∀{a b:List Nat},a.map (λD=>({target:=.collected D,args:= #[]}:Deferred))=b.map (λD=>{target:=.collected D,args:= #[]})->a=b:=by
 intro a;induction a with
 |nil=>intro b h;cases b with
  |nil=>rfl
  |cons _ _=>cases h
 |cons x a ih=>intro b h;cases b with
  |nil=>cases h
  |cons y b=>
   simp only[G4,List.cons.injEq,Deferred.mk.injEq,Target.collected.injEq]at h;rw[h.1.1,ih h.2]
def Jo(w1:dE)(E':eG)(O':dP)(x:LX)(env':eG)(H':dP):Prop:=(match x with| .normal=>True|_=>False)/\iO w1 env' H' E' O'
theorem bL{d:dE}{b:eG}{c:dP}{a:eG}{H':dP}:Jo d b c .normal a H'↔iO d a H' b c:=by simp[Jo]
theorem fF.rangeFunc{g:Operand}{ps:Array Tmp}{assign body:Code}{f:FuncId}{caps:List DV}{items:List Xx}(hIt:Ud P f caps items)(hg:kK env g=.d (.fn f caps))(hps:∀x∈items,x.vs.length=ps.size)(hN:∀p∈ps.toList,p<N)
 (hc1:mV assign=true)(hc2:mV body=true)(O O2:Nat->dP)(hO:O 0=H)(pins:List Nat)(hnd:pins.Nodup)(hw0:∀id∈w0.pins,id∈pins)(hpin:∀i id,O i id≠ .absent->id∈pins)
 (E1:Nat->eG)(O1:Nat->dP)(pins1:List Nat)(hpin1:∀i id,O1 i id≠ .absent->id∈pins1)
 (hO2:∀i,i<items.length->O (i+1)=aK (pins.map λp=>(p,cX (pins.map λp=>(p,p)) (O2 i p))))
 (ha:∀(w1:dE) X1 i x,w1.pins=pins->items[i]? =some x->fF P N w1 X1 assign (Jo w1 (E1 i) (O1 i)) (vR env ps.toList x.ds) (O i))
 (hb:∀(w1:dE) X1 i x,w1.pins=pins1->items[i]? =some x->fF P N w1 X1 body (Jo w1 (bB []) (O2 i)) (E1 i) (O1 i))
 (hq:Q .normal env (O items.length)):fF P N w0 X (.rangeFunc g ps assign body) Q env H:=by
 intro r hr β a w s;obtain⟨hn,hfl⟩:=hr.resolve_right (by simp[mV]);subst hn;refine wpIn_rangeFunc λfn _=>?_;have hrd:=s.get g;rw[hg]at hrd;obtain⟨lb,hev,hlb⟩:∃lb:List Value,a.eval g=.func (.func f) #[] lb.toArray/\Lq w (Ex X β H) caps lb:=by
  obtain⟨gv,hgv⟩:∃gv,a.eval g=gv:=⟨_,rfl⟩;rw[hgv]at hrd|-;cases hrd with
  |d _ _ h=>cases h with
   |fn _ _ vs hl hc=>exact⟨vs,rfl,hl,hc⟩
 obtain⟨rec,hrec⟩:∃rec:LoopState->Option Code->Loop,rec=λst pe=>{state:=st,pending:=pe,fn,tmps:=a.tmps,params:=ps,assign,body,defers:=w.heap.size}:=⟨_,rfl⟩;obtain⟨W1,hW1⟩:∃W1,(w.alloc (.deferred (some []))).alloc (.loop (rec .ready none))=W1:=⟨_,rfl⟩;have hL1:W1.heap[w.heap.size+1]? =some (.loop (rec .ready none)):=by
  rw[<-hW1];have:=World.alloc_heap_new (w.alloc (.deferred (some []))) (.loop (rec .ready none));rwa[World.size_alloc]at this
 have hK1:W1.heap[w.heap.size]? =some (.deferred (some [])):=by
  rw[<-hW1];exact(Below.heap_alloc _ _ _ bA).trans (World.alloc_heap_new w _)
 have hs1:W1.heap.size=w.heap.size+2:=by rw[<-hW1];simp
 have bel1:Ah w.heap.size w W1:=by
  refine⟨by rw[<-hW1];rfl,by rw[<-hW1];rfl,by rw[<-hW1];rfl,aD,λk hk=>?_,by rw[<-hW1];exact A4 _⟩;rw[<-hW1,Below.heap_alloc _ _ _ (by rw[World.size_alloc];omega),Below.heap_alloc _ _ _ hk]
 obtain⟨mw1,gw1⟩:=s.mem.grow bel1;have hold:∀id b,(H id).live=true->β id=some b->b<w.heap.size:=λid b h1 h2=>(s.fresh id b h1 h2).2;have hxo:∀k,Ex X β H k->k<w.heap.size:=λk h=>by
  rcases h with h|⟨id,h1,h2⟩
  .exact B3 (s.xold.1 k h).1 s.ext.size
  .exact hold id k (bS h1) h2
 obtain⟨fn',hfn',hname',hbody'⟩:=hIt.1;have eg:∀args w,(callFunc f args).run P w=.ok (.enter f args) w:=λargs w=>by
  have hbn:fn'.body.isNone=false:=by cases q:fn'.body<;>simp_all
  simp only[callFunc,Sem.run_bind,Sem.run_pure,Result.andThen_ok,run_program,hfn',hname',G8,if_false,hbn]
 refine⟨w.heap.size+1,[{target:=.collected w.heap.size,args:= #[]}],W1,{target:=.fn (.func f) lb.toArray,args:= #[.func (.yield (w.heap.size+1)) #[] #[]]},W1,f,
  #[.func (.yield (w.heap.size+1)) #[] #[]]++lb.toArray,W1,?_,?_,λ_ _=>trivial,?_,λh=>(by cases h),callsIn_wide.2 ?_⟩
 .rw[<-hW1,hrec];exact run_enterLoop_outer _ _ _ _ _
 .simp only[resolve,hev];simp[go_sem]
 .simp[invoke,go_sem,eg]
 have ow:WZ W1 (Ex X β H):=⟨λk hk=>by have:=hxo k hk;omega,mw1.glob⟩;have lb1:Lq W1 (Ex X β H) caps lb:=⟨hlb.1,λi c v hc hv=>gw1.D (hlb.2 i c v hc hv)⟩;obtain⟨J,hJ⟩:∃J:(Nat->Prop)->Nat->World->Prop,J=λK i W=>∃β',dV w0 X (O i) β' W/\fB X H β w (O i) β' W/\W.heap[w.heap.size+1]? =some (.loop (rec .ready none))/\W.heap[w.heap.size]? =some (.deferred (some []))/\
  (∀id b,(O i id).live=true->β' id=some b->b<w.heap.size\/(¬K b/\w.heap.size+1<b))/\∀k,K k->w.heap.size+1<k/\k<W.heap.size:=⟨_,rfl⟩
 refine(hIt.2 W1 (Ex X β H) lb (w.heap.size+1) J ow lb1 ?_ ?_ ?_).mono ?_
 .intro W bel;rw[hJ];obtain⟨m2,g2⟩:=mw1.grow bel;refine⟨β,by rw[hO];exact m2,by rw[hO];exact gw1.trans g2,(bel.block _ aD).trans hL1,(bel.block _ aD).trans hK1,λid b h1 h2=>.inl (by rw[hO]at h1;exact hold id b h1 h2),λk hk=>⟨aD,hk.2⟩⟩
 .intro K i W W' hj bel;rw[hJ]at hj|-;obtain⟨β',m,gg,q1,q2,q3,q4⟩:=hj;obtain⟨m2,g2⟩:=m.grow bel;have hlt1:=(A0.1 q1).1;refine⟨β',m2,gg.trans g2,(bel.block _ hlt1).trans q1,(bel.block _ aD).trans q2,λid b h1 h2=>?_,λk hk=>?_⟩
  .rcases q3 id b h1 h2 with h|⟨h,h'⟩
   .exact .inl h
   .refine .inr ⟨λhk=>?_,h'⟩;rcases hk with hk|hk
    .exact h hk
    .have:=(m.fresh id b h1 h2).2;omega
  .have:=bel.size;rcases hk with hk|hk
   .have:=q4 k hk;omega
   .omega
 .intro K i W x hj hx;have hjW:=hj;rw[hJ]at hj;obtain⟨β',m,gg,q1,q2,q3,q4⟩:=hj;have hlt1:=(A0.1 q1).1;have hi:i<items.length:=(A6.1 hx).1;have hxl:=hps x (G6 hx);have hl0:w0.w.heap.size<=w.heap.size:=s.ext.size;have hy:=run_yield (P:=P) (args:=x.vs.toArray) q1 (by rw[hrec];simpa using hxl);refine⟨_,_,_,_,hy,?_⟩;rw[hrec];refine roundIn_of_wpIn trivial ?_;have mA:=m.rebase pins (hpin i);have hsz:(x.vs.toArray.size=ps.size):=by simpa using hxl
  have hfold:(ps.zip x.vs.toArray).foldl (λtmps (t,v)=>tmps.setIfInBounds t v) a.tmps=(ps.toList.zip x.vs).foldl (λtm (p,v)=>tm.setIfInBounds p v) a.tmps:=by
   rw[<-Array.foldl_toList];simp
  have sA:mG N ⟨W,β',O i,pins,true⟩ X (vR env ps.toList x.ds) (O i) β' ⟨(ps.zip x.vs.toArray).foldl (λtmps (t,v)=>tmps.setIfInBounds t v) a.tmps,[]⟩ W:=by
   refine⟨FA.nil,?_,mA.ext,mA.xold,mA.fresh,mA.inj,λt=>?_,mA.obj,mA.pin⟩
   .rw[hfold,DX];exact s.size
   .simp only[hfold];exact Ue ps.toList x.ds x.vs env a.tmps (by simpa using hxl) (x.rd _ _) (λp hp=>by rw[s.size];exact hN p hp) (λt=>gg.R (s.env t)) t
  refine wpIn_mono (ha ⟨W,β',O i,pins,true⟩ X i x rfl hx (some (w.heap.size+1)) (.inr ⟨hc1,rfl⟩) β' _ W sA) ?_;rintro e a1 Wa ⟨lx,env1,H1,β1,g1,s1,g2,g3⟩;cases lx with
  |exit id=>exact g2.elim
  |ret=>exact g2.elim
  |normal=>
  cases e<;>simp only[gR]at g1;obtain⟨β2,s2⟩:=g3 _ _ _ _ _ s1;obtain⟨m1,gA⟩:=m.unbase (hpin i) s2.mem;have gW1:=gg.trans gA;have keepA:∀k,K k\/(k<w.heap.size/\¬Ex X β H k)\/k=w.heap.size\/k=w.heap.size+1->¬Ex X β' (O i) k:=λk hk he=>by
   rcases he with he|⟨id,h1,h2⟩
   .have:=(s.xold.1 k he).1;rcases hk with hk|⟨_,hk⟩|hk|hk
    .have:=q4 k hk;omega
    .exact hk (.inl he)
    .omega
    .omega
   .have h3:=q3 id k (bS h1) h2;rcases hk with hk|⟨hk,hk'⟩|hk|hk
    .rcases h3 with h3|h3
     .have:=q4 k hk;omega
     .exact h3.1 hk
    .exact hk' (gg.sub k hk (.inr ⟨id,h1,h2⟩))
    .rcases h3 with h3|h3<;>omega
    .rcases h3 with h3|h3<;>omega
  have ltW:∀k,K k\/(k<w.heap.size/\¬Ex X β H k)\/k=w.heap.size\/k=w.heap.size+1->k<W.heap.size:=λk hk=>by
   rcases hk with hk|⟨hk,_⟩|hk|hk
   .exact(q4 k hk).2
   .omega
   .omega
   .omega
  have sameA:∀k,K k\/(k<w.heap.size/\¬Ex X β H k)\/k=w.heap.size\/k=w.heap.size+1->Wa.heap[k]? =W.heap[k]? :=λk hk=>gA.blk k (ltW k hk) (keepA k hk);have hLa:=(sameA _ (.inr (.inr (.inr rfl)))).trans q1;refine⟨_,run_beginRound hLa (by rw[hrec]),?_⟩;obtain⟨Wb,hWb⟩:∃Wb,Wa.putObj (w.heap.size+1) (.loop {rec .ready none with state:=.busy})=Wb:=⟨_,rfl⟩;have hszb:Wb.heap.size=Wa.heap.size:=by rw[<-hWb];simp
  have mb:dV w0 X (O1 i) β2 Wb:=by rw[<-hWb];exact m1.still _ hLa rfl aD
  have gb:fB X H β w (O1 i) β2 Wb:=by rw[<-hWb];exact gW1.still _ hLa rfl aD
  have sameB:∀k,k≠w.heap.size+1->Wb.heap[k]? =Wa.heap[k]? :=λk hk=>by rw[<-hWb];exact World.putObj_heap_other hk
  have hLb:Wb.heap[w.heap.size+1]? =some (.loop {rec .ready none with state:=.busy}):=by
   rw[<-hWb];exact World.putObj_heap_same (A0.1 hLa).1
  rw[hWb];have q3a:∀id b,(O1 i id).live=true->β2 id=some b->b<w.heap.size\/(¬K b/\w.heap.size+1<b):=λid b h1 h2=>by
   rcases(s2.fresh id b h1 h2).1 with h|⟨⟨j,_,h3,h4⟩,_⟩
   .have h:W.heap.size<=b:=h;exact .inr ⟨λhk=>by have:=q4 b hk;omega,aD⟩
   .exact q3 j b h3 h4
  have mB:=mb.rebase pins1 (hpin1 i);have sB:mG N ⟨Wb,β2,O1 i,pins1,true⟩ X (E1 i) (O1 i) β2 a1 Wb:=by
   refine⟨?_,s2.size,mB.ext,mB.xold,mB.fresh,mB.inj,λt=>?_,mB.obj,mB.pin⟩
   .obtain⟨Ds,d0,_,d2,_⟩:=s2.defers;rw[d0 rfl]at d2;rw[d2];exact FA.nil
   .rw[<-hWb];exact CS _ hLa rfl (s2.env t)
  refine wpIn_mono (hb ⟨Wb,β2,O1 i,pins1,true⟩ X i x rfl hx (some (w.heap.size+1)) (.inr ⟨hc2,rfl⟩) β2 a1 Wb sB) ?_;rintro e a2 Wc ⟨lx,env2,H2,β3,g1,s3,g2,g3⟩;cases lx with
  |exit id=>exact g2.elim
  |ret=>exact g2.elim
  |normal=>
  cases e<;>simp only[gR]at g1;obtain⟨β4,s4⟩:=g3 _ _ _ _ _ s3;obtain⟨mc,gC⟩:=mb.unbase (hpin1 i) s4.mem;have gc:=gb.trans gC;have keepB:∀k,K k\/(k<w.heap.size/\¬Ex X β H k)\/k=w.heap.size\/k=w.heap.size+1->¬Ex X β2 (O1 i) k:=λk hk he=>by
   rcases he with he|⟨id,h1,h2⟩
   .exact keepA k hk (.inl he)
   .have h3:=q3a id k (bS h1) h2;rcases hk with hk|⟨hk,hk'⟩|hk|hk
    .rcases h3 with h3|h3
     .have:=q4 k hk;omega
     .exact h3.1 hk
    .exact hk' (gb.sub k hk (.inr ⟨id,h1,h2⟩))
    .rcases h3 with h3|h3<;>omega
    .rcases h3 with h3|h3<;>omega
  have hAB:Wa.heap.size<=Wb.heap.size:=aD;have sameC:∀k,K k\/(k<w.heap.size/\¬Ex X β H k)\/k=w.heap.size\/k=w.heap.size+1->Wc.heap[k]? =Wb.heap[k]? :=λk hk=>gC.blk k (by have:=ltW k hk;have:=gA.size;omega) (keepB k hk);have hLc:=(sameC _ (.inr (.inr (.inr rfl)))).trans hLb;have hre:=run_endRound (P:=P) none hLc;refine⟨_,_,hre,rfl,?_⟩;obtain⟨Wd,hWd⟩:∃Wd,Wc.putObj (w.heap.size+1) (.loop {{rec .ready none with state:=.busy}with state:=if(none:Option Code).isNone then .ready else .done,pending:=none})=Wd:=⟨_,rfl⟩;have hszd:Wd.heap.size=Wc.heap.size:=by rw[<-hWd];simp
  have md:dV w0 X (O2 i) β4 Wd:=by rw[<-hWd];exact mc.still _ hLc rfl aD
  have gd:fB X H β w (O2 i) β4 Wd:=by rw[<-hWd];exact gc.still _ hLc rfl aD
  have sZ:∀k,k≠w.heap.size+1->Wd.heap[k]? =Wc.heap[k]? :=λk hk=>by rw[<-hWd];exact World.putObj_heap_other hk
  have hLd:Wd.heap[w.heap.size+1]? =some (.loop (rec .ready none)):=by
   rw[<-hWd,World.putObj_heap_same (A0.1 hLc).1,hrec];rfl
  rw[hWd];have sz1:W.heap.size<=Wd.heap.size:=by have:=gA.size;have:=gC.size;omega
  have sameAll:∀k,K k\/(k<w.heap.size/\¬Ex X β H k)\/k=w.heap.size\/k=w.heap.size+1->Wd.heap[k]? =W.heap[k]? :=λk hk=>by
   by_cases e:k=w.heap.size+1
   .subst e;rw[hLd,q1]
   .rw[sZ k e,sameC k hk,sameB k e,sameA k hk]
  obtain⟨β5,me,he5,hl5⟩:=md.forget pins hnd hw0;rw[<-hO2 i hi]at me he5 hl5;refine⟨?_,sz1,λk hk=>sameAll k (hk.imp (λh=>h) λh=>?_)⟩
  .rw[hJ];refine⟨β5,me,⟨gd.size,gd.blk,λk hk h=>?_,λid=>?_⟩,hLd,(sameAll _ (.inr (.inr (.inl rfl)))).trans q2,λid b h1 h2=>?_,λk hk=>⟨(q4 k hk).1,by have:=(q4 k hk).2;omega⟩⟩
   .rcases h with h|⟨id,h1,h2⟩
    .exact .inl h
    .obtain⟨e1,e2⟩:=he5 id (hl5 id (bS h1));refine gd.sub k hk (.inr ⟨id,?_,e1▸h2⟩);rw[e2,pZ]at h1;exact h1
   .by_cases hab:H id=.absent
    .unfold bW;rw[hab];trivial
    .have hm:id∈pins:=hpin 0 id (by rw[hO];exact hab);obtain⟨e1,e2⟩:=he5 id hm;refine(gd.pass id).trans ?_;unfold bW;rw[e1,e2];cases q:O2 i id with
     |absent=>trivial
     |dead=>rfl
     |box fz cs=>exact .inr ⟨⟨_,_,rfl⟩,rfl⟩
     |row fz size xs=>exact .inr ⟨⟨_,_,rfl,A4 _⟩,rfl,λb cur e _ hc=>⟨cur,e,hc,rfl⟩⟩
     |map fz ks vs=>exact .inr ⟨⟨_,_,_,rfl⟩,rfl⟩
     |iter fz ks vs=>exact .inr ⟨⟨_,_,_,rfl⟩,rfl⟩
     |know x v=>trivial
   .obtain⟨e1,e2⟩:=he5 id (hl5 id h1);rw[e2,fH]at h1;rw[e1]at h2;rcases(s4.fresh id b h1 h2).1 with h|⟨⟨j,_,h3,h4⟩,_⟩
    .have h:Wb.heap.size<=b:=h;have:=gA.size;exact .inr ⟨λhk=>by have:=q4 b hk;omega,aD⟩
    .exact q3a j b h3 h4
  .by_cases h1:k=w.heap.size
   .exact .inr (.inl h1)
   .by_cases h2:k=w.heap.size+1
    .exact .inr (.inr h2)
    .exact .inl ⟨aD,h.2⟩
 .rintro e W2 ⟨⟨v,rfl⟩,K,hj⟩;rw[hJ]at hj;obtain⟨β',m,gg,q1,q2,q3,q4⟩:=hj;refine⟨none,_,by have:=run_endLoop (P:=P) q1 (by rw[hrec];simp);rw[hrec]at this;exact this,?_⟩;have hl0:w0.w.heap.size<=w.heap.size:=s.ext.size;obtain⟨W3,hW3⟩:∃W3,W2.putObj (w.heap.size+1) (.loop {rec .ready none with state:=.exhausted})=W3:=⟨_,rfl⟩;have m3:dV w0 X (O items.length) β' W3:=by rw[<-hW3];exact m.still _ q1 rfl aD
  have g3:fB X H β w (O items.length) β' W3:=by rw[<-hW3];exact gg.still _ q1 rfl aD
  have hD3:W3.heap[w.heap.size]? =some (.deferred (some [])):=by rw[<-hW3];exact(World.putObj_heap_other aD).trans q2
  rw[hrec]at hW3;simp only at hW3|-;rw[hW3];refine⟨.normal,env,_,β',trivial,⟨?_,s.size,m3.ext,m3.xold,m3.fresh,m3.inj,λt=>g3.R (s.env t),m3.obj,m3.pin⟩,hq⟩;obtain⟨Ds,_,d1,d2,d3⟩:=g3.marks s.defers;obtain⟨Ds',_,d1',d2',d3'⟩:=s.defers;have hDs:∀D∈Ds,D<w.heap.size:=λD hD=>by
   have e:Ds=Ds':=Rd (d2.symm.trans d2');subst e;exact(A0.1 (d3' D hD).2.2).1
  refine⟨w.heap.size::Ds,λh=>(by rw[hfl]at h;cases h),G7.2 ⟨λh=>by have:=hDs _ h;omega,d1⟩,by rw[G4,<-d2];rfl,λD hD=>?_⟩;rcases H4.1 hD with rfl|hD
  .refine⟨hl0,λhe=>?_,hD3⟩;rcases he with he|⟨id,h1,h2⟩
   .have:=(s.xold.1 _ he).1;omega
   .have h3:=q3 id _ (bS h1) h2;rcases h3 with h3|h3<;>omega
  .exact d3 D hD
end
end
section
open Go.RowKit
section
variable{P:Program} {ops:Array Oper} {Q:Exit->Act->World->Prop}
theorem Uf{o:Oper}{a:Act}{w:World}{K k:Act->World->Prop}{Q l:Exit->Act->World->Prop}(r:Option Nat)(m:nR o=true)(b:∀a w,K a w->k a w)(j:∀e a w,Q e a w->e=.normal\/l e a w)(h:o.wp P a w K Q):o.wpIn (RF r) 0 P a w k l:=by
 refine⟨λ_ _=>trivial,?_⟩;rw[Oper.semAt_eq _ _ _ (λc e=>by simp[nR,e]at m)];unfold Oper.wp at h;revert h;cases(execOp a.eval o).run P w with
 |ok x g=>
  cases x with
  |value v=>exact b _ _
  |skip=>exact b _ _
  |defer d=>exact b _ _
  |enter f args=>exact λh=>⟨λh=>(by cases h),callsIn_wide.2 ((h:Calls P f args g _).mono λe g i=>by
    cases e
    .exact b _ _ i
    .exact(j _ _ _ i).resolve_left bA
    .obtain⟨a,w,q⟩:=i;exact⟨a,w,(j _ _ _ q).resolve_left bA⟩)⟩
  |row row args=>exact λh=>⟨λh=>(by cases h),(FO (h:Rows P row args g _)).mono λv g=>b _ _⟩
  |_=>exact λh=>h.elim
 |halt x g=>cases x<;>first|exact λh=>(j _ _ _ h).resolve_left bA|exact λh=>h.elim
theorem zO{K:Act->World->Prop}{rest:List Oper}(f:∀a w,K a w->wpListIn (RF none) 0 P ops Q rest a w):∀(b:List Oper) (a:Act) (w:World),(∀o∈b,nR o=true)->wpList P ops (λe a w=>e=.normal/\K a w) b a w->wpListIn (RF none) 0 P ops Q (b++rest) a w
 |[],_,_,_,h=>f _ _ h.2
 |o::b,a,w,hd,h=>by
  have g:=zO f b;have c:∀o∈b,nR o=true:=λo j=>hd o (A8 _ j);rw[H5];unfold wpList at h;unfold wpListIn;split
  .rename_i d;rw[if_pos d]at h;rcases h with h|⟨_,k,l,i,_⟩
   .exact Uf none (hd o (E9 ..)) (λa w=>g a w c) (λe a w q=>.inl q.1) h
   .cases i
  .rename_i d;rw[if_neg d]at h;exact⟨λ_ _=>trivial,g _ _ c h⟩
end
section
variable{N:Nat} {w0:dE} {X:Nat->Prop} {env:eG} {H:dP} {β:Nat->Option Nat} {a:Act} {w w':World}
theorem mG.effect{X':Nat->Prop}(s:mG N w0 X env H β a w)(pins:List Nat)(hp:∀id,H id≠ .absent->id∈pins)(n:a.defers=[])(L:w.heap.size<=w'.heap.size)
 (Y:∀k,k<w.heap.size->¬X k->w'.heap[k]? =w.heap[k]?)(S:∀k,k<w.heap.size->X' k->X k)(U:∀k,X' k->k<w'.heap.size)(hG:zI w' X'):mG N ⟨w',β,H,pins,true⟩ X' env H β a w':=by
 have hl:∀{id},(H id).live=true->id∈pins:=λ{id} h=>hp id λe=>by rw[e]at h;cases h
 have p:∀id b,(H id).live=true->β id=some b->¬X b/\b<w.heap.size:=λid b f g=>⟨λE=>by
  have P:=s.xold.1 b E;rcases(s.fresh id b f g).1 with h|h
  .omega
  .exact P.2 h.1,(s.fresh id b f g).2⟩
 have j:∀id b,(H id).live=true->β id=some b->w'.heap[b]? =w.heap[b]? :=λid b f g=>Y b (p id b f g).2 (p id b f g).1;have F:∀k,k<w.heap.size->¬Ex X β H k->w'.heap[k]? =w.heap[k]? :=λk f g=>Y k f λh=>g (.inl h);have J:∀k,k<w.heap.size->Ex X' β H k->Ex X β H k:=λk f g=>g.imp (S k f) λh=>h;have D:∀{d:DV} {v:Value},RD w (Ex X β H) d v->RD w' (Ex X' β H) d v:=λh=>h.step F L J;have hP:∀id,bW w β H w' β H id:=λid=>by
  unfold bW;cases q:H id with
  |absent=>trivial
  |dead=>rfl
  |box fz cs=>exact .inr ⟨⟨_,_,rfl⟩,rfl⟩
  |row fz size xs=>exact .inr ⟨⟨_,_,rfl,A4 _⟩,rfl,λb z e hb V=>⟨z,e,(j id b (by rw[q];rfl) hb).trans V,rfl⟩⟩
  |map fz ks vs=>exact .inr ⟨⟨_,_,_,rfl⟩,rfl⟩
  |iter fz ks vs=>exact .inr ⟨⟨_,_,_,rfl⟩,rfl⟩
  |know x v=>trivial
 have Q:∀{l:LV} {v:Value},Eng.R w (Ex X β H) β H l v->Eng.R w' (Ex X' β H) β H l v:=λh=>h.step (λ_ _=>D) hP;have Z:∀k,X' k->¬dE.mine ⟨w',β,H,pins,true⟩ k:=λk E ⟨id,_,f,g⟩=>(p id k f g).1 (S k (p id k f g).2 E);have W:=s.mem.globL;refine⟨by rw[n];exact FA.nil,s.size,⟨rfl,rfl,rfl,A4 _,λ_ _ _=>rfl,A4 _⟩,⟨λk E=>⟨U k E,Z k E⟩,?_⟩,λid b f g=>⟨.inr ⟨⟨id,hl f,f,g⟩,λhm=>⟨id,hl f,hm,g⟩⟩,?_⟩,s.inj,λt=>Q (s.env t),λid=>?_,λid _=>bW.refl id⟩
 .refine W.step (λk f g=>Y k f λh=>g (.inl h)) L λk f g=>g.imp (S k f) ?_;rintro⟨id,_,P,h4⟩;exact⟨id,P,h4⟩
 .exact B3 (p id b f g).2 L
 .have o:=s.obj id;unfold dS at o|-;cases q:H id with
  |absent=>trivial
  |dead=>trivial
  |box fz cs=>
   rw[q]at o;obtain⟨b,e,us,r,B,u,C,K⟩:=o;exact⟨b,e,us,r,(j id b (by rw[q];rfl) r).trans B,u,C,λi c v V M=>Q (K i c v V M)⟩
  |row fz size xs=>
   rw[q]at o;obtain⟨r,B,u⟩:=o;refine⟨r,B,u.imp (λh=>h) ?_⟩;rintro⟨b,e,z,y1,y2,y3,y4⟩;exact⟨b,e,z,y1,(j id b (by rw[q];rfl) y1).trans y2,y3,λi d v n M=>⟨(y4 i d v n M).1,D (y4 i d v n M).2⟩⟩
  |map fz ks vs=>
   rw[q]at o;obtain⟨b,y,m,r,B,u,C,K,z6,z7⟩:=o;exact⟨b,y,m,r,(j id b (by rw[q];rfl) r).trans B,u,C,K,λi d e n A=>D (z6 i d e n A),λi d e n A=>D (z7 i d e n A)⟩
  |iter fz ks vs=>
   rw[q]at o;obtain⟨b,O,y,m,I,G,r,B,u,C,K,z6,z7,z8,z9,a0,a1⟩:=o;exact⟨b,O,y,m,I,G,r,(j id b (by rw[q];rfl) r).trans B,λh=>u (J O C h),B3 C L,(F O C u).trans K,z6,z7,z8,z9,λi d e n A=>D (a0 i d e n A),λi d e n A=>D (a1 i d e n A)⟩
  |know x v=>
   rw[q]at o;exact Q o
end
structure Po(P:Program) where
 T:(Nat->Prop)->Nat->World->Prop
 S:Nat->Prop
 grow:∀K i W W',T K i W->Ah W.heap.size W W'->T (λk=>K k\/W.heap.size<=k/\k<W'.heap.size) i W'
 low:∀K i W k,T K i W->K k->k<W.heap.size
 same:∀K i W K' i' W' k,T K i W->T K' i' W'->S k->W'.heap[k]? =W.heap[k]?
 glob:∀K i W,T K i W->zI W λk=>k<W.heap.size/\¬(K k\/S k)
def Po.X{P:Program}(F:Po P)(K:Nat->Prop)(W:World)(k:Nat):Prop:=k<W.heap.size/\¬(K k\/F.S k)
def CY{P:Program}(F:Po P)(K:Nat->Prop)(i n:Nat)(r:Value)(W:World)(e:Ending)(W':World):Prop:=
 e=.returned r/\∃K',F.T K' (i+n) W'/\W.heap.size<=W'.heap.size/\∀k,K k->K' k/\W'.heap[k]? =W.heap[k]?
def pE{P:Program}(F:Po P)(u:DV)(args:List DV)(i n:Nat)(r:Value):Prop:=
 ∀K W v vs,F.T K i W->RD W (F.X K W) u v->Lq W (F.X K W) args vs->
  (∃f lb,v=.func (.func f) #[] lb/\pW P f/\Calls P f (vs.toArray++lb) W (CY F K i n r W))\/
  (∃l,v=.func (.yield l) #[] #[]/\YieldAt Fence.wide 0 P l vs.toArray W (CY F K i n r W))
def Ck{P:Program}(F:Po P)(N:Nat)(pins:List Nat)(Q:LX->eG->dP->Nat->Prop)(K:Nat->Prop)(W:World)(e:Exit)(a':Act)(w':World):Prop:=
 ∃x env' H' i' w1 K' β',gR e x/\w1.flat=true/\w1.pins=pins/\(∀k,¬w1.own k)/\F.T K' i' w1.w/\(∀k,K k->K' k/\w1.w.heap[k]? =W.heap[k]?)/\W.heap.size<=w1.w.heap.size/\mG N w1 (F.X K' w1.w) env' H' β' a' w'/\Q x env' H' i'
def Fm{P:Program}(F:Po P)(N:Nat)(pins:List Nat)(c:Code)(Q:LX->eG->dP->Nat->Prop)(env:eG)(H:dP)(i:Nat):Prop:=
 mV c=true->∀w0 K β a w,w0.flat=true->w0.pins=pins->(∀k,¬w0.own k)->F.T K i w0.w->mG N w0 (F.X K w0.w) env H β a w->c.wpIn (RF none) 0 P (Ck F N pins Q K w0.w) a w
def gT(Kn:eG->dP->Nat->Prop)(Q:LX->eG->dP->Nat->Prop):LX->eG->dP->Nat->Prop
 | .normal,env,H,i=>Kn env H i
 |e,env,H,i=>Q e env H i
def CZ(id:Nat)(Q:LX->eG->dP->Nat->Prop):LX->eG->dP->Nat->Prop
 | .exit j,env,H,i=>if j=id then Q .normal env H i else Q (.exit j) env H i
 |e,env,H,i=>Q e env H i
section
variable{P:Program} {T:TypeId->cW} {F:Po P} {N:Nat} {pins:List Nat} {Q Q':LX->eG->dP->Nat->Prop} {env:eG} {H:dP} {i:Nat}
theorem Ck.mono{K:Nat->Prop}{W:World}{e:Exit}{a:Act}{w:World}(h:Ck F N pins Q K W e a w)(q:∀x env H i,Q x env H i->Q' x env H i):Ck F N pins Q' K W e a w:=
 let⟨x,b,c,r,s,d,t,f,g,j,k,l,m,n,o,p⟩:=h
 ⟨x,b,c,r,s,d,t,f,g,j,k,l,m,n,o,q _ _ _ _ p⟩
theorem Ck.later{K d:Nat->Prop}{W c:World}{e:Exit}{a:Act}{w:World}(h:Ck F N pins Q d c e a w)(u:∀k,K k->d k/\c.heap[k]? =W.heap[k]?)(v:W.heap.size<=c.heap.size):Ck F N pins Q K W e a w:=
 let⟨x,b,g,y,z,i,A,j,l,m,n,o,f,p,r,s⟩:=h
 ⟨x,b,g,y,z,i,A,j,l,m,n,o,λk t=>let q:=u k t;⟨(f k q.1).1,(f k q.1).2.trans q.2⟩,B9 v p,r,s⟩
theorem DY{c:Code}(h:∀d X,d.pins=pins->fF P N d X c (λx env H=>Q x env H i) env H):Fm F N pins c Q env H i:=
 λm d K β a w e f j l s=>wpIn_mono (h d _ f none (.inr ⟨m,e⟩) β a w s) λ_ _ _ ⟨x,b,g,o,q1,q2,q3⟩=>
  ⟨x,b,g,i,d,K,o,q1,e,f,j,l,λk n=>⟨n,rfl⟩,A4 _,q2,q3⟩
theorem vS{c:Code}{b:eG}{e:dP}(m:∀d:dE,d.pins=pins->iO d env H b e)(h:Fm F N pins c Q b e i):Fm F N pins c Q env H i:=
 λl d K β a w g f j k s=>let⟨o,n⟩:=m d f _ _ _ _ _ s;h l d K o a w g f j k n
theorem Fm.skip(h:Q .normal env H i):Fm F N pins .skip Q env H i:=DY λ_ _ _=>fF.skip h
theorem Fm.ret(h:Q .ret env H i):Fm F N pins .ret Q env H i:=DY λ_ _ _=>fF.ret h
theorem Fm.exit{id:Nat}(h:Q (.exit id) env H i):Fm F N pins (.exit id) Q env H i:=DY λ_ _ _=>fF.exit h
theorem Fm.seq{x y:Code}(h:Fm F N pins x (gT (Fm F N pins y Q) Q) env H i):Fm F N pins (.seq x y) Q env H i:=by
 intro d C K β a w u v z A s;simp only[mV,C5]at d;refine wpIn_seq (wpIn_mono (h d.1 C K β a w u v z A s) ?_);rintro e t w' ⟨B,b,p,r,n,c,o,q1,q2,q3,f,g,j,k,l,m⟩;cases e<;>cases B<;>simp only[gR]at q1
 .exact wpIn_mono (m d.2 n c o t w' q2 q3 f g l) λ_ _ _ q=>q.later j k
 .subst q1;exact⟨.exit _,b,p,r,n,c,o,rfl,q2,q3,f,g,j,k,l,m⟩
 .exact⟨.ret,b,p,r,n,c,o,trivial,q2,q3,f,g,j,k,l,m⟩
theorem Fm.block{id:Nat}{c:Code}(h:Fm F N pins c (CZ id Q) env H i):Fm F N pins (.block id c) Q env H i:=by
 intro t A K β a w u v x y s;simp only[mV]at t;refine wpIn_block (wpIn_mono (h t A K β a w u v x y s) ?_);rintro e B w' ⟨z,b,f,j,p,g,q,q1,q2,q3,k,l,m,n,o,d⟩;cases e<;>cases z<;>simp only[gR]at q1
 .exact⟨.normal,b,f,j,p,g,q,trivial,q2,q3,k,l,m,n,o,d⟩
 .subst q1;simp only[Exit.inBlock,CZ]at d|-;split at d
  .rename_i r;rw[if_pos r];exact⟨.normal,b,f,j,p,g,q,trivial,q2,q3,k,l,m,n,o,d⟩
  .rename_i r;rw[if_neg r];exact⟨.exit _,b,f,j,p,g,q,rfl,q2,q3,k,l,m,n,o,d⟩
 .exact⟨.ret,b,f,j,p,g,q,trivial,q2,q3,k,l,m,n,o,d⟩
theorem Fm.cond{c:Operand}{x y:Code}{b:Bool}(n:kK env c=.d (.bool b))(l:b=true->Fm F N pins x Q env H i)(m:b=false->Fm F N pins y Q env H i):Fm F N pins (.cond c x y) Q env H i:=by
 intro d k K β a w e f g h s;simp only[mV,C5]at d;have j:=s.get c;rw[n]at j;refine wpIn_cond j.bool ?_;cases b
 .exact m rfl d.2 k K β a w e f g h s
 .exact l rfl d.1 k K β a w e f g h s
theorem Fm.loop{c:Code}{ι:Type}(E:ι->eG)(O:ι->dP)(v:ι->Nat)(I:ι->Prop)(μ:ι->Nat)(j:ι)(Y:∀d:dE,d.pins=pins->iO d env H (E j) (O j))(Z:v j=i)(W:I j)
 (l:∀j,I j->Fm F N pins c (gT (λb r u=>∃p,(∀d:dE,d.pins=pins->iO d b r (E p) (O p))/\u=v p/\I p/\μ p<μ j) Q) (E j) (O j) (v j)):Fm F N pins (.loop c) Q env H i:=by
 refine vS Y ?_;subst Z;intro C d K β a w P S U V s;simp only[mV]at C;refine vG (λn a w=>∃j f m β,μ j=n/\I j/\f.flat=true/\f.pins=pins/\(∀k,¬f.own k)/\F.T m (v j) f.w/\mG N f (F.X m f.w) (E j) (O j) β a w/\(∀k,K k->m k/\f.w.heap[k]? =d.w.heap[k]?)/\d.w.heap.size<=f.w.heap.size) (μ j)
  ⟨j,d,K,β,rfl,W,P,S,U,V,s,λk x=>⟨x,rfl⟩,A4 _⟩ ?_
 rintro n L f ⟨j1,M,m,β1,rfl,X,t1,t2,t3,t4,s1,t5,t6⟩;refine wpIn_mono (l j1 X C M m β1 L f t1 t2 t3 t4 s1) ?_;rintro e a2 w2 ⟨lx,b,r,u,o,t,J,q1,q2,q3,y,z,G,q7,A,B⟩;have g:∀k,K k->t k/\o.w.heap[k]? =d.w.heap[k]? :=λk x=>let q:=t5 k x;⟨(G k q.1).1,(G k q.1).2.trans q.2⟩;have h:=B9 t6 q7;cases e<;>cases lx<;>simp only[gR]at q1
 .obtain⟨D,r1,r2,r3,r4⟩:=B;obtain⟨β3,s3⟩:=r1 o q3 _ _ _ _ _ A;exact⟨μ D,r4,D,o,t,β3,rfl,r3,q2,q3,y,by rw[<-r2];exact z,s3,g,h⟩
 .subst q1;exact⟨.exit _,b,r,u,o,t,J,rfl,q2,q3,y,z,g,h,A,B⟩
 .exact⟨.ret,b,r,u,o,t,J,trivial,q2,q3,y,z,g,h,A,B⟩
theorem Fm.len{c:Code}{t:Nat}{f:List DV}(o:env t=.d (.sl f))(h:f.length<=9223372036854775807->Fm F N pins c Q env H i):Fm F N pins c Q env H i:=by
 intro n p K β a w g j k l s;have e:=s.env t;rw[o]at e;cases e with
 |d _ _ e=>
  obtain⟨b,q,_,r,m⟩:=e.sl_len;exact h (by unfold maxLen at m;omega) n p K β a w g j k l s
theorem jY(hT:fW P T)(hW:Cd T){id:Nat}{l:List Oper}(a:Nat->Option jU)(h:(fG P T N l a env H).ok/\Q .normal (fG P T N l a env H).env (fG P T N l a env H).H i)
 (b:∀d,tE (a d):=by intro d;first|exact BD ⟨rfl,λ_ h=>h⟩|exact⟨rfl,λ_ h=>h⟩|(split<;>exact⟨rfl,λ_ h=>h⟩)):Fm F N pins (.region id l.toArray false) Q env H i:=DY λ_ _ _=>Ar hT hW a b h
theorem mG.nodefer{b:dE}{X:Nat->Prop}{β:Nat->Option Nat}{a:Act}{w:World}(s:mG N b X env H β a w)(h:b.flat=true):a.defers=[]:=by
 obtain⟨e,c,_,d,_⟩:=s.defers;rw[d,c h];rfl
theorem SP.bel{a:dE}{w:World}(h:SP a w)(c:∀k,¬a.own k):Ah a.w.heap.size a.w w:=⟨h.os,h.tape,h.output,h.size,λk b=>h.block k b (c k),h.drawn⟩
theorem kV{f:FuncId}{fn:Func}{c:Code}{g a:List DV}{n m t:Nat}{r:Value}{d:DV}(Z:P.funcs[f]? =some fn)(y:(fn.name== "runtime.NumGoroutine")=false)(Y:fn.body=some c)(hn:fn.ntmps=n)(u:(a++g).length<=n)(D:fn.results= #[.tmp t])
 (hr:∀w E v,RD w E d v->v=r)(hc:mV c=true)(h:Fm F n pins c (λx env _ i'=>(match x with| .exit _=>False|_=>True)/\i'=i+m/\env t=.d d) (iD (a++g)) (aK []) i):pE F (.fn f g) a i m r:=by
 intro K W v z G M J;cases M with
 |fn _ _ us hl hu=>
 refine .inl ⟨f,us.toArray,rfl,⟨fn,Z,y,by rw[Y];rfl⟩,?_⟩;have B:(z.toArray++us.toArray)=(z++us).toArray:=bA;rw[B];have I:=J.1;have s0:mG n ⟨W,λ_=>none,λ_=>.absent,pins,true⟩ (F.X K W) (iD (a++g)) (aK []) (λ_=>none) ⟨(z++us).toArray++J3 (fn.ntmps-(z++us).toArray.size) undef,[]⟩ W:=by
  refine⟨FA.nil,?_,⟨rfl,rfl,rfl,A4 _,λ_ _ _=>rfl,A4 _⟩,⟨λk o=>⟨o.1,λ⟨id,_,s,_⟩=>by cases s⟩,(F.glob K i W G).anti λk o=>o.resolve_right λ⟨id,_,s,_⟩=>by cases s⟩,λid b hl _=>by simp[aK,fN,bJ.live]at hl,λi j b hi _=>by simp[aK,fN,bJ.live]at hi,λt=>?_,λid=>?_,λid _=>?_⟩
  .simp at u|-;omega
  .rw[qW];cases q:(a++g)[t]? with
   |none=>exact .junk _
   |some x=>
    have C:(z++us).length=(a++g).length:=(by simp[I,hl]);have H:t<(z++us).length:=by rw[C];exact(A6.1 q).1
    have O:∀(L:List Value) (h:t<L.length),(L.toArray++J3 (fn.ntmps-L.toArray.size) undef).getD t undef=L[t]:=λL h=>by
     simp[C0,G9,h]
    simp only[O _ H];refine .d _ _ (RD.anti (E:=F.X K W) (λk o=>?_) ?_)
    .rcases o with o|⟨id,s,_⟩
     .exact o
     .simp[aK,fN,bJ.mut]at s
    .have p:=A5 H;by_cases G:t<a.length
     .rw[B0 G]at q;rw[B0 aD]at p;exact J.2 t x _ q p
     .rw[A9 aD]at q;rw[A9 aD,I]at p;exact hu _ x _ q p
  .simp[dS,aK,fN]
  .simp[bW]
 refine(callsIn_wide (n:=0)).1 (callsIn_of_wp Z Y trivial (wpIn_mono (h hc _ K _ _ _ rfl rfl (λk ⟨id,_,s,_⟩=>by cases s) G s0) ?_) rfl);rintro e V w' ⟨x,X,H',i',w1,K',β',q1,q2,q3,q4,q5,q6,q7,U,q9,Q,S⟩;subst Q;have l:=U.ext.bel q4;have M:=U.env t;rw[S]at M;have N:V.tmps.getD t undef=r:=by cases M with|d _ _ h=>exact hr _ _ _ h
 have A:bodyPost P fn (CY F K i m r W) .ret V w':=by
  refine⟨U.nodefer q2,r,by rw[results_tmp D,N],rfl,_,F.grow K' _ _ _ q5 l,B9 q7 l.size,λk o=>⟨.inl (q6 k o).1,?_⟩⟩;exact(l.block k (B3 (F.low K i W k G o) q7)).trans (q6 k o).2
 cases e<;>cases x<;>simp only[gR]at q1
 .exact A
 .exact q9.elim
 .exact A
theorem Xy(hT:fW P T)(hW:Cd T){id:Nat}{pre post:List Oper}{o:Oper}{dst:Nat}{callee:Operand}{args:Array Operand}{ts:Array TypeId}(V:Nat->Option jU)(B:∀d,tE (V d))
 (ho:o.op=.call {callee:=.value callee,args:=args,argTypes:=ts})(hd:o.dst=some dst)(hg:o.guard=none)(hN:dst<N){n:Nat}{rd u:DV}{r:Value}{az:List DV}(b3:∀w E,RD w E rd r){s1 s2:uF}
 (a3:pre.foldl (fK P T N (cT N (pre++o::post)) V) ⟨env,H,True⟩=s1)(I:s1.ok)(hm:∀id,(s1.H id).mut=false)(hp:∀id,s1.H id≠ .absent->id∈pins)
 (hu:close s1.H 8 (kK s1.env callee)=some u)(a8:cS (args.toList.map λx=>close s1.H 8 (kK s1.env x))=some az)(L:pE F u az i n r)
 (a4:post.foldl (fK P T N (cT N (pre++o::post)) V) ⟨cQ s1.env dst (.d rd),s1.H,True⟩=s2)(h2:s2.ok)(hq:Q .normal s2.env s2.H (i+n)):Fm F N pins (.region id (pre++o::post).toArray false) Q env H i:=by
 intro hc y K β a w f1 f2 f3 ht s;have a2:∀Y∈pre++o::post,nR Y=true:=by
  simp only[mV]at hc;rw[Array.all_eq_true]at hc;intro Y b2;obtain⟨j,hj,rfl⟩:=C9 b2;have:=hc j (by simpa using hj);simpa using this
 refine wpIn_region_list ?_;show wpListIn _ _ _ _ _ (pre++o::post) _ _;refine zO (K:=λp g=>∃Z,mG N y (F.X K y.w) s1.env s1.H Z p g) ?_ pre a w (λY h=>a2 Y (List.mem_append_left _ h)) (qB hT hW (mW N _) pre ⟨env,H,True⟩ β a w (λo _=>B _) s (by rw[a3];exact I) λa' w' β' s'=>⟨rfl,β',by rw[a3]at s';exact s'⟩);rintro p g ⟨Z,W⟩;have G:=W.ext.bel f3;have U:=F.grow K i y.w g ht G;obtain⟨D,m⟩:∃D:Nat->Prop,D=λk=>K k\/y.w.heap.size<=k/\k<g.heap.size:=⟨_,rfl⟩;rw[<-m]at U;have a7:∀k,F.X D g k->Ex (F.X K y.w) Z s1.H k:=λk A=>by
  refine .inl ⟨?_,λh=>A.2 ?_⟩
  .refine I8 λh=>A.2 (.inl ?_);rw[m];exact .inr ⟨h,A.1⟩
  .rcases h with h|h
   .left;rw[m];exact .inl h
   .exact .inr h
 have a0:∀{c:LV} {d:DV} {v:Value},close s1.H 8 c=some d->Eng.R g (Ex (F.X K y.w) Z s1.H) Z s1.H c v->RD g (F.X D g) d v:=λ{c d v} hcl hr=>
  (nZ W.mem.obj (λ_ _ h=>h) 8 c d v hcl (λid hid b hb=>Uc W.mem (mS 8 c d hcl id hid) (hm id) hb) hr).anti a7
 have b0:=a0 hu (W.get callee);have J:Lq g (F.X D g) az (args.toList.map p.eval):=by
  obtain⟨e1,e2⟩:=jF a8;refine⟨by simpa using e1.symm,λj c v hc hv=>?_⟩;obtain⟨x,X,rfl⟩:=eJ hv;exact a0 (e2 j x c X hc) (W.get x)
 have C:∀v z,CY F D i n r g (.returned v) z->wpListIn (RF none) 0 P (pre++o::post).toArray (Ck F N pins Q K y.w) post (p.put o.dst v) z:=by
  rintro v z ⟨e,K2,t1,t2,t3⟩;injection e with e;subst e
  have a5:∀k,k<g.heap.size->¬F.X K y.w k->z.heap[k]? =g.heap[k]? :=λk A hn=>by
   by_cases h0:k<y.w.heap.size
   .have:K k\/F.S k:=J9 λh=>hn ⟨h0,h⟩;rcases this with h|h
    .exact(t3 k (by rw[m];exact .inl h)).2
    .exact F.same _ _ _ _ _ _ k U t1 h
   .exact(t3 k (by rw[m];exact .inr ⟨aD,A⟩)).2
  have sb:=W.effect (X':=F.X K2 z) pins hp (W.nodefer f1) t2 a5 (λk A X=>⟨I8 λh=>X.2 (.inl (t3 k (by rw[m];exact .inr ⟨h,A⟩)).1),λh=>X.2 (by
   rcases h with h|h
   .exact .inl (t3 k (by rw[m];exact .inl h)).1
   .exact .inr h)⟩) (λk X=>X.1) (F.glob _ _ _ t1)
  have sc:=sb.put sb.mem fB.refl (.d rd v (b3 _ _)) (dst:=o.dst) (by rw[hd];exact hN);rw[hd]at sc|-;have:=zO (P:=P) (ops:=(pre++o::post).toArray) (Q:=Ck F N pins Q K y.w) (rest:=[]) (K:=λa w=>Ck F N pins Q K y.w .normal a w) (λ_ _ h=>h) post _ z (λY h=>a2 Y (List.mem_append_right _ (A8 _ h)))
   (qB hT hW (mW N (pre++o::post)) post ⟨cQ s1.env dst (.d rd),s1.H,True⟩ Z _ z (λo _=>B _) sc (by rw[a4];exact h2) λa' w' β' s'=>by
     rw[a4]at s';refine⟨rfl,.normal,s2.env,s2.H,i+n,_,K2,β',trivial,rfl,rfl,?_,t1,λk A=>?_,B9 G.size t2,s',hq⟩
     .rintro k ⟨id,_,I,_⟩;rw[hm id]at I;cases I
     .have I:=t3 k (by rw[m];exact .inl A);exact⟨I.1,I.2.trans (G.block k (F.low K i _ k ht A))⟩)
  rwa[List.append_nil]at this
 unfold wpListIn;rw[if_pos (by simp[Region.wanted,hg])];refine⟨λ_ _=>trivial,?_⟩;rw[Oper.semAt_eq _ _ _ (λc e=>by rw[ho]at e;cases e)];rcases L D g _ _ U b0 J with⟨f,lb,O,⟨fn,b1,S,a9⟩,hC⟩|⟨l,O,fn,tm,a6,bo,hy,hR⟩
 .have hb:fn.body.isNone=false:=by cases q:fn.body<;>simp_all
  have t:(execOp p.eval o).run P g=.ok (.enter f ((args.toList.map p.eval).toArray++lb)) g:=by
   have e1: #[]++args.map p.eval++lb=(args.toList.map p.eval).toArray++lb:=by
    congr 1;apply K3;simp
   simp only[execOp,ho,resolve,O,Deferred.ofValue,Sem.run_bind,Sem.run_pure,Result.andThen_ok,invoke,callFunc,run_program,b1,S,G8,if_false,hb];rw[e1]
  rw[t];refine⟨λh=>(by cases h),callsIn_wide.2 (hC.mono λe z M=>?_)⟩;cases e with
  |returned v=>exact C v z M
  |panicked ch=>exact absurd M.1 bA
  |outgrown=>exact absurd M.1 bA
 .have t:(execOp p.eval o).run P g=.ok (.round l fn tm a6 bo) g:=by
   have e1: #[]++args.map p.eval=(args.toList.map p.eval).toArray:=by
    apply K3;simp
   simp only[execOp,ho,resolve,O,Deferred.ofValue,Sem.run_bind,Sem.run_pure,Result.andThen_ok,invoke];rw[e1];exact hy
  rw[t];refine⟨λh=>(by cases h),hR.mono λe z M=>?_⟩;cases e with
  |returned v=>exact C v z M
  |panicked ch=>exact absurd M.1 bA
  |outgrown=>exact absurd M.1 bA
def zP(P:Program)(T:TypeId->cW)(N:Nat)(l l':List Oper)(orc:Nat->Option jU)(env:eG)(H:dP):uF:=l'.foldl (fK P T N (cT N l) orc) ⟨env,H,True⟩
theorem Bs{l:List (Nat×bJ)}(h:l.all (λp=> !p.2.mut)=true)(id:Nat):(aK l id).mut=false:=by
 unfold aK;induction l with
 |nil=>rfl
 |cons p r ih=>
  simp only[List.all_cons,C5,Bool.not_eq_true']at h;unfold fN;split
  .exact h.1
  .exact ih h.2
theorem oC{l:List (Nat×bJ)}(id:Nat)(h:aK l id≠ .absent):id∈l.map (·.1):=by
 unfold aK at h;induction l with
 |nil=>exact absurd rfl h
 |cons p r ih=>
  unfold fN at h;split at h
  .rename_i e;simp[e]
  .exact A8 _ (ih h)
theorem mX(hT:fW P T)(hW:Cd T){id:Nat}{l:List Oper}{o:Oper}{b:Nat}{callee:Operand}{args:Array Operand}{L:Array TypeId}(a:List (Nat×bJ))(C:H=aK a)(g:a.all (λp=> !p.2.mut)=true)(j:∀x∈a.map (·.1),x∈pins)
 (k:Nat)(t:l[k]? =some o)(K:o.op=.call {callee:=.value callee,args:=args,argTypes:=L})(G:o.dst=some b)(J:o.guard=none)(D:b<N){n:Nat}{rd u:DV}{r:Value}{s:List DV}(m:∀w E,RD w E rd r)(c:pE F u s i n r)
 (h:((zP P T N l (l.take k) (λ_=>none) env (aK a)).ok/\(zP P T N l (l.take k) (λ_=>none) env (aK a)).H=aK a/\close (aK a) 8 (kK (zP P T N l (l.take k) (λ_=>none) env (aK a)).env callee)=some u/\
    cS (args.toList.map λx=>close (aK a) 8 (kK (zP P T N l (l.take k) (λ_=>none) env (aK a)).env x))=some s)/\
   (zP P T N l (l.drop (k+1)) (λ_=>none) (cQ (zP P T N l (l.take k) (λ_=>none) env (aK a)).env b (.d rd)) (aK a)).ok/\
   Q .normal (zP P T N l (l.drop (k+1)) (λ_=>none) (cQ (zP P T N l (l.take k) (λ_=>none) env (aK a)).env b (.d rd)) (aK a)).env
     (zP P T N l (l.drop (k+1)) (λ_=>none) (cQ (zP P T N l (l.take k) (λ_=>none) env (aK a)).env b (.d rd)) (aK a)).H (i+n)):Fm F N pins (.region id l.toArray false) Q env H i:=by
 subst C;obtain⟨⟨v,d,y,z⟩,A,B⟩:=h;have e:l=l.take k++o::l.drop (k+1):=by
  have f:=(A6.1 t).1;have I:=(A6.1 t).2
  conv=>lhs;rw[<-List.take_append_drop k l]
  rw[List.drop_eq_getElem_cons f,I]
 have q:=Xy (F:=F) (pins:=pins) (Q:=Q) (env:=env) (H:=aK a) (i:=i) (id:=id) hT hW (pre:=l.take k) (post:=l.drop (k+1)) (o:=o) (dst:=b) (λ_=>none) (λ_=>⟨rfl,λ_ h=>h⟩) K G J D m (s1:=zP P T N l (l.take k) (λ_=>none) env (aK a))
  (s2:=zP P T N l (l.drop (k+1)) (λ_=>none) (cQ (zP P T N l (l.take k) (λ_=>none) env (aK a)).env b (.d rd)) (aK a)) (by rw[<-e];rfl) v (by rw[d];exact Bs g) (by rw[d];exact λid h=>j id (oC id h)) (by rw[d];exact y) (by rw[d];exact z) c
  (by rw[<-e,d];rfl) A B
 rwa[<-e]at q
end
end
section
open Go.RowKit Go.Shelf Go.Sort Go.Proofs
structure Ay{α:Type}(k:Nat)(d:α->DV)(enc:α->List Value):Prop where
 pos:0<k
 len:∀x,(enc x).length=k
 lenD:∀x,(aQ (d x)).length=k
 one:∀x,∀v∈enc x,v.oneCell'=true
 cell:∀(x:α) (i:Nat) (c:DV) (v:Value),(aQ (d x))[i]? =some c->(enc x)[i]? =some v->∀w E u,RD w E c u↔u=v
theorem Mo{α:Type}[Inhabited α]{k:Nat}{d:α->DV}{a:α->List Value}(C:Ay k d a)(l:List α):(flatK a k l.toArray).toList=l.flatMap a:=by
 have h:=C.pos;apply I7;intro i;by_cases f:i<l.length*k
 .have b:i / k<l.length:=(Nat.div_lt_iff_lt_mul h).2 f;have j:=Nat.mod_lt i h;have m:(l.flatMap a)[i]? =(a l[i / k])[i%k]? :=by
   have g:∀(l:List α) (q r:Nat) (e:q<l.length),r<k->(l.flatMap a)[q*k+r]? =(a l[q])[r]? :=by
    intro l;induction l with
    |nil=>intro q r e;simp at e
    |cons x t ih=>
     intro q r e c;simp only[F5];cases q with
     |zero=>rw[K0,H6,B0 (by rw[C.len];exact c)];rfl
     |succ q=>
      rw[A9 (by rw[C.len,F4];omega),C.len,show(q+1)*k+r-k=q*k+r by rw[F4];omega];exact ih q r (by simpa using e) c
   have:=g l (i / k) (i%k) b j;rw[show i / k*k+i%k=i by rw[Nat.mul_comm];exact Nat.div_add_mod _ _]at this;exact this
  rw[m];have c:i%k<(a l[i / k]).length:=by rw[C.len];exact j
  have n:(flatK a k l.toArray)[i]? =some ((a l.toArray[i / k]!)[i%k]!):=by simp[flatK,f]
  rw[C7,n,A5 c];simp[b,c]
 .rw[F9 (by simp[flatK];omega),F9];have:(l.flatMap a).length=l.length*k:=by
   clear f;induction l with
   |nil=>simp
   |cons x t ih=>simp only[F5,F0,C.len,ih,G0,F4];omega
  omega
section
variable{P:Program} {ρ:Ren} {α:Type} [Inhabited α]
theorem zQ{α:Type}{k:Nat}{d:α->DV}{a:α->List Value}(C:Ay k d a):∀(l:List α) (i:Nat) (c:DV) (v:Value),(bZ (l.map d))[i]? =some c->(l.flatMap a)[i]? =some v->∀w E u,RD w E c u↔u=v
 |[],i,c,v,hc,_=>by simp[bZ]at hc
 |x::t,i,c,v,hc,hv=>by
  simp only[G4,bZ,F5]at hc hv;by_cases b:i<k
  .rw[B0 (by rw[C.lenD];exact b)]at hc;rw[B0 (by rw[C.len];exact b)]at hv;exact C.cell x i c v hc hv
  .rw[A9 (by rw[C.lenD];omega),C.lenD]at hc;rw[A9 (by rw[C.len];omega),C.len]at hv;exact zQ C t (i-k) c v hc hv
end
end
section
open Go.RowKit
def Zv{β:Type}(B:Nat)(J:β->World->Prop):Prop:=
 ∀s W W' row,J s W->W.grownBy W' row->W.drawn<=W'.drawn->(∀r,row=some r->B<=r/\∃o:Obj,W.heap[r]? =some o/\o.isCells=false)->J s W'
theorem Zv.putObj{β:Type}{B:Nat}{J:β->World->Prop}(h:Zv B J){s:β}{W:World}{l:Nat}{o:Obj}(a:Obj)(f:J s W)(b:B<=l)(c:W.heap[l]? =some o)(d:o.isCells=false):J s (W.putObj l a):=
 h s W _ (some l) f (grownBy_putObj' W l a) (A4 _) (λr e=>by cases e;exact⟨b,o,c,d⟩)
theorem Zv.alloc{β:Type}{B:Nat}{J:β->World->Prop}(h:Zv B J){s:β}{W:World}(o:Obj)(a:J s W):J s (W.alloc o):=
 h s W _ none a (World.grownBy_alloc W o none) (A4 _) (λr e=>by cases e)
def Ug{α:Type}(B:Nat)(I:List α->World->Prop)(xs:List α)(W:World):Exit->Act->World->Prop
 | .normal,_,W'=>KeepsFrom B W W'/\KeepsWalks W W'/\I xs W'
 |_,_,_=>False
theorem vT{F:Fence}{n:Nat}{P:Program}{w:World}{α:Type}{g:Operand}{p:Tmp}{assign body:Code}{Q:Exit->Act->World->Prop}{a:Act}
 (hro:F.round=none)(h1:1<=n){gf:Nat}{lb:Array Value}(hg:a.eval g=.func (.func gf) #[] lb)(hFg:F.fn gf)(eg:∀args w,(callFunc gf args).run P w=.ok (.enter gf args) w)
 {enc:α->Value}{S:List α->Prop}{N:Nat}(I:List α->World->Prop)(hI:Zv w.heap.size I)(h0:I [] w)
 (hseq:∀(l:Nat) (J:List α->World->Prop) (W1:World),I [] W1->w.heap.size<=W1.heap.size->Zv W1.heap.size J->
   (∀pre x W,J pre W->pre.length<N->YieldAt F (n-1-1) P l #[enc x] W λe W'=>e=.returned (.bool true)/\J (pre++[x]) W'/\KeepsWalks W W')->J [] W1->
   CallsIn F (n-1) P gf (#[.func (.yield l) #[] #[]]++lb) W1 λe W'=>(∃v,e=.returned v)/\∃xs,S xs/\J xs W')
 (Ax:α->Act->World->Prop)(hAx:∀x a',Zv w.heap.size (λ(_:Unit) W=>Ax x a' W))
 (hassign:∀(l:Nat) (pre:List α) (x:α) (W:World) (K:Act->World->Prop),I pre W->(∀a' W',W.grownBy W' none->W.drawn<=W'.drawn->Ax x a' W'->K a' W')->
   assign.wpIn (F.inRound l) (n-1-1) P (Exit.then K (λ_ _ _=>False)) {tmps:=a.tmps.setIfInBounds p (enc x),defers:=[]} W)
 (hbody:∀(l:Nat) (pre:List α) (x:α) (a':Act) (W:World),I pre W->Ax x a' W->pre.length<N->body.wpIn (F.inRound l) (n-1-1) P (Ug w.heap.size I (pre++[x]) W) a' W)
 (hdone:∀(D:Nat) (xs:List α) (W:World),w.heap.size<=D->S xs->I xs W->W.heap[D]? =some (.deferred (some []))->Q .normal {a with defers:={target:=.collected D,args:= #[]}::a.defers} W):
 (Code.rangeFunc g #[p] assign body).wpIn F n P Q a w:=by
 refine wpIn_rangeFunc ?_;intro fn hfn;rw[hro];obtain⟨rec,hrec⟩:∃rec:LoopState->Option Code->Loop,rec=λst pe=>{state:=st,pending:=pe,fn,tmps:=a.tmps,params:= #[p],assign,body,defers:=w.heap.size}:=⟨_,rfl⟩;obtain⟨W1,hW1⟩:∃W1,(w.alloc (.deferred (some []))).alloc (.loop (rec .ready none))=W1:=⟨_,rfl⟩;have hL1:W1.heap[w.heap.size+1]? =some (.loop (rec .ready none)):=by
  rw[<-hW1];have:=World.alloc_heap_new (w.alloc (.deferred (some []))) (.loop (rec .ready none));rwa[World.size_alloc]at this
 have hK1:W1.heap[w.heap.size]? =some (.deferred (some [])):=by
  rw[<-hW1];exact(Below.heap_alloc _ _ _ bA).trans (World.alloc_heap_new w _)
 have hI1:I [] W1:=by rw[<-hW1];exact hI.alloc _ (hI.alloc _ h0)
 have hs1:W1.heap.size=w.heap.size+2:=by rw[<-hW1];simp
 refine⟨w.heap.size+1,[{target:=.collected w.heap.size,args:= #[]}],W1,{target:=.fn (.func gf) lb,args:= #[.func (.yield (w.heap.size+1)) #[] #[]]},W1,gf,
  #[.func (.yield (w.heap.size+1)) #[] #[]]++lb,W1,?_,?_,?_,?_,λ_=>h1,?_⟩
 .rw[<-hW1,hrec];exact run_enterLoop_outer _ _ _ _ _
 .simp only[resolve,hg];simp[go_sem]
 .intro f' hf';simp[Target.leads]at hf';subst hf';exact hFg
 .simp[invoke,go_sem,eg]
 .have keep:∀{A B:World} {row:Option Nat} {k:Nat} {o:Obj},A.grownBy B row->(∀r,row=some r->W1.heap.size<=r/\∃o:Obj,A.heap[r]? =some o/\o.isCells=false)->k<W1.heap.size->A.heap[k]? =some o->B.heap[k]? =some o:=λ{A B row k o} hg' hr hk ho=>
   (hg'.block k (A0.1 ho).1 (λe=>by have:=(hr k e.symm).1;omega)).trans ho
  refine(hseq (w.heap.size+1) (λpre W=>I pre W/\W.heap[w.heap.size+1]? =some (.loop (rec .ready none))/\W.heap[w.heap.size]? =some (.deferred (some []))) W1 hI1 aD
   (λs A B row hs hg' hd hr=>⟨hI s A B row hs.1 hg' hd (λr e=>⟨by have:=(hr r e).1;omega,(hr r e).2⟩),keep hg' hr aD hs.2.1,keep hg' hr aD hs.2.2⟩)
   ?_ ⟨hI1,hL1,hK1⟩).mono ?_
  .rintro pre x W ⟨hi,hl,hk⟩ hlen;have hlt:w.heap.size+1<W.heap.size:=(A0.1 hl).1;have hy:(Instr.yield (w.heap.size+1) #[enc x]).run P W=.ok (.round (w.heap.size+1) fn (a.tmps.setIfInBounds p (enc x)) assign body) W:=by
    have:=run_yield (P:=P) (args:= #[enc x]) hl (by rw[hrec];simp);rw[hrec]at this;simpa using this
   refine⟨fn,_,assign,body,hy,roundIn_of_wpIn hfn (hassign _ pre x W _ hi ?_)⟩;intro a' Wa hga hda hax;have hla:=(hga.block _ (A0.1 hl).1 bA).trans hl;have hka:=(hga.block _ (A0.1 hk).1 bA).trans hk;have hia:I pre Wa:=hI pre W Wa none hi hga hda (λr e=>by cases e);have hwa:KeepsWalks W Wa:=KeepsWalks.of_grownBy hga (λj o e=>by cases e);have hlta:w.heap.size+1<Wa.heap.size:=(A0.1 hla).1;refine⟨_,run_beginRound hla (by rw[hrec]),?_⟩;have hl2:(Wa.putObj (w.heap.size+1) (.loop {rec .ready none with state:=.busy})).heap[w.heap.size+1]? =some (.loop {rec .ready none with state:=.busy}):=World.putObj_heap_same hlta;have hk2:(Wa.putObj (w.heap.size+1) (.loop {rec .ready none with state:=.busy})).heap[w.heap.size]? =some (.deferred (some [])):=(World.putObj_heap_other aD).trans hka;have hw2:KeepsWalks Wa (Wa.putObj (w.heap.size+1) (.loop {rec .ready none with state:=.busy})):=KeepsWalks.putObj _ hla rfl;refine wpIn_mono (hbody _ pre x a' _ (hI.putObj _ hia aD hla rfl) ((hAx x a').putObj (s:=()) _ hax aD hla rfl) hlen) ?_;rintro e a3 W3 hp;cases e with
   |normal=>
    obtain⟨hk3,hkp3,hi3⟩:=hp;have hl3:=hk3.same _ _ aD hl2 rfl;have hd3:=hk3.same _ _ (A4 _) hk2 rfl;have hr:=run_endRound (P:=P) none hl3;refine⟨_,_,hr,rfl,⟨hI.putObj _ hi3 aD hl3 rfl,?_,(World.putObj_heap_other aD).trans hd3⟩,(hwa.trans hw2).trans (hkp3.trans (KeepsWalks.putObj _ hl3 rfl))⟩;have:=World.putObj_heap_same (w:=W3) (o:=.loop (rec .ready none)) (A0.1 hl3).1;rw[hrec]at this|-;exact this
   |ret=>exact hp.elim
   |exit id=>exact hp.elim
   |goto t=>exact hp.elim
   |panic ch=>exact hp.elim
   |outgrown=>exact hp.elim
  .rintro e W2 ⟨⟨v,rfl⟩,xs,hS,hi,hl,hk⟩;exact⟨none,_,by have:=run_endLoop (P:=P) hl (by rw[hrec];simp);rw[hrec]at this;exact this,hdone _ xs _ (A4 _) hS (hI.putObj _ hi aD hl rfl) ((World.putObj_heap_other aD).trans hk)⟩
structure uH(s:Nat)(b0:Option Nat)(base:Nat)(W:World)(v:Value)(n:Nat)(cells:List Value)(gb:Option Nat):Prop where
 len:cells.length=n*s
 one:∀u∈cells,u.oneCell'=true
 lies:(gb=none/\n=0/\∃a,v=.slice a 0 0)\/∃g cap cur e,gb=some g/\v=.slice (some ⟨g,0,none⟩) n cap/\(b0=some g\/base<=g)/\W.heap[g]? =some (.cells cur e (0,0))/\n<=cap/\cap<=maxLen/\cap*s=cur.size/\cur.toList.take (n*s)=cells
theorem uH.kept{s:Nat}{l:Option Nat}{b:Nat}{W k:World}{v:Value}{n:Nat}{a:List Value}{f d:Option Nat}(h:uH s l b W v n a f)(u:W.grownBy k d)(c:f=none\/f≠d):uH s l b k v n a f:=by
 refine⟨h.len,h.one,?_⟩;rcases h.lies with p|⟨g,i,j,e,rfl,q,r,m,t⟩
 .exact .inl p
 .refine .inr ⟨g,i,j,e,rfl,q,r,(u.block g (A0.1 m).1 (λo=>?_)).trans m,t⟩;rcases c with c|c
  .cases c
  .exact c o
theorem uH.append{P:Program}{t e:TypeId}{i:TypeInfo}{z:Value}{s:Nat}(ty:TypeId)(Z:P.underlying t=some (.slice e))(hi:P.info? e=some i)(hz:i.zero=some z)(J:i.size=s)(a7:z.cells.size=s)(hs:0<s)
 {b0:Option Nat}{x:Nat}{W:World}{v:Value}{n:Nat}{l:List Value}{G:Option Nat}(h:uH s b0 x W v n l G)(H:x<=W.heap.size){L c:Nat}{d:List Value}(hn:d.length=s)(h1:∀u∈d,u.oneCell'=true)
 (hc:∀(j:Nat) (u:Value),d[j]? =some u->W.cell? ⟨L,j,none⟩=some u)(hb:(n+1)*i.bytes<=140737488355328)(hm:n+1<=140737488355328):
 ∃X B q,(Builtin.append_ #[t,t] ty #[v,.slice (some ⟨L,0,none⟩) 1 c]).run P W=.ok X B/\uH s b0 x B X (n+1) (l++d) (some q)/\W.grownBy B G/\W.drawn<=B.drawn/\(G=some q\/q=W.heap.size)/\
  ((q=W.heap.size/\W.grownBy B none)\/(G=some q/\∀f e,W.heap[q]? =some (.cells f e (0,0))->∃m,B.heap[q]? =some (.cells m e (0,0))/\m.size=f.size/\m.toList.take (n*s)=f.toList.take (n*s))):=by
 have y:(l++d).length=(n+1)*s:=by rw[F0,h.len,hn,F4];omega
 have E:∀u∈l++d,u.oneCell'=true:=λu F=>(List.mem_append.1 F).elim (h.one u) (h1 u);have S:(Builtin.lenOf (.slice (some ⟨L,0,none⟩) 1 c)).run P W=.ok 1 W:=by simp[Builtin.lenOf]
 have hf:∀C:World,C.heap=W.heap->(Builtin.firstCells i.size 1 (.slice (some ⟨L,0,none⟩) 1 c)).run P C=.ok d.toArray C:=λC hw=>
  jG (by rw[J];omega) λj u F=>by rw[sH hw];simpa using hc j u F
 have hd:∀k,(TypeDesc.slice e)≠ .int k:=λk=>bA;have V:∀{Y:Option Addr} {b:Nat} (A:List Value),A=l->(∀C:World,C.heap=W.heap->(Builtin.firstCells i.size n (.slice Y n b)).run P C=.ok A.toArray C)->b<n+1->
  ∃X B q,(Builtin.append_ #[t,t] ty #[.slice Y n b,.slice (some ⟨L,0,none⟩) 1 c]).run P W=.ok X B/\uH s b0 x B X (n+1) (l++d) (some q)/\W.grownBy B G/\W.drawn<=B.drawn/\(G=some q\/q=W.heap.size)/\
  ((q=W.heap.size/\W.grownBy B none)\/(G=some q/\∀f e,W.heap[q]? =some (.cells f e (0,0))->∃m,B.heap[q]? =some (.cells m e (0,0))/\m.size=f.size/\m.toList.take (n*s)=f.toList.take (n*s))):=by
  intro Y b A ho a6 N;subst ho;have p:=pY (P:=P) (w:=W) (ty:=ty) (base:=Y) (sLen:=n) (sCap:=b) Z Z hd hi hz S hf a6 N aD hb;have a4:=grownCap_ge W (n+1) b e;have a3:(A.toArray++d.toArray++Builtin.zeroCells z.cells (grownCap W (n+1) b e-(n+1))).size=grownCap W (n+1) b e*s:=by
   simp only[H3,F6,size_zeroCells,a7,h.len,hn];have:(n+1+(grownCap W (n+1) b e-(n+1)))*s=n*s+s+(grownCap W (n+1) b e-(n+1))*s:=by rw[F4,F4];omega
   rw[<-this];congr 1;omega
  refine⟨_,_,_,p,⟨y,E,.inr ⟨_,_,_,e,rfl,rfl,.inr H,heap_alloc_new W.drew _,a4,grownCap_le_maxLen W (n+1) b e (by unfold maxLen;omega),a3.symm,?_⟩⟩,⟨rfl,rfl,rfl,bA,λk Q _=>heap_alloc_old W.drew _ Q⟩,I2 _,.inr rfl,.inl ⟨rfl,⟨rfl,rfl,rfl,bA,λk Q _=>heap_alloc_old W.drew _ Q⟩⟩⟩;rw[<-y];simp only[Array.toList_append,D7];rw[<-D7,I3]
 rcases h.lies with⟨rfl,rfl,a,rfl⟩|⟨g,b,f,M,rfl,rfl,a0,o,a5,a2,I,K⟩
 .have a1:l=[]:=B6 (by simpa using h.len);refine V [] a1.symm (λC _=>by cases a<;>simp[Builtin.firstCells,loadCells,loadCellsFrom]) aD
 .by_cases r:n+1<=b
  .have a9:n*s+d.length<=f.size:=by
    rw[hn,<-I];have:(n+1)*s<=b*s:=G5 _ r;rw[F4]at this;omega
   have p:=kM (P:=P) (w:=W) (ty:=ty) (base:=some ⟨g,0,none⟩) (sLen:=n) (sCap:=b) Z Z hd hi S hf r;have U:=run_storeCells_at P g (n*s) M d 0 f W o aD h1;simp only[Nat.add_zero]at U;simp only[Addr.add_lit,H6,J]at p;rw[U]at p;have O:f.toList.length=f.size:=bA;refine⟨_,_,g,p,⟨y,E,.inr ⟨g,b,_,M,rfl,rfl,a0,setRow_heap W g f _ M (0,0) o,r,a2,?_,?_⟩⟩,⟨rfl,rfl,rfl,bA,λk _ Q=>setRow_other W g k _ (λe=>Q (by rw[e]))⟩,A4 _,.inl rfl,.inr ⟨rfl,λa8 e2 D=>?_⟩⟩
   .rw[I];simp only[F6,F0,D8,I9,O];omega
   .simp only[K];rw[D7,<-D7,<-y,I3]
   .rw[o]at D;injection D with D;injection D with p1 p2;subst p1;subst p2
    refine⟨_,setRow_heap W g f _ M (0,0) o,?_,?_⟩
    .simp only[F6,F0,D8,I9,O];omega
    .simp only[K];rw[D7,<-h.len,I3]
  .refine V (f.toList.take (n*s)) K (λC hw=>?_) aD;refine jG (by rw[J,D8,E0,<-I];have:n*s<=b*s:=G5 _ a5;omega) λj u F=>?_;rw[sH hw,cell_of_row W g _ f M (0,0) o];rw[D0]at F;split at F
   .simpa using F
   .cases F
theorem yX{F:Fence}{H:Nat}{P:Program}(W:World){q:Array Oper}{l:List Oper}{o:Oper}{a:Act}{Q:Exit->Act->World->Prop}(Y:o.guard=none)(I x:Operand)(t:TypeId)(B:o.op=.call {callee:=.builtin .append,args:= #[I,x],argTypes:= #[t,t]})
 {e:TypeId}{i:TypeInfo}{z:Value}{s:Nat}(ht:P.underlying t=some (.slice e))(Z:P.info? e=some i)(hz:i.zero=some z)(C:i.size=s)(D:z.cells.size=s)(hs:0<s)
 {G:Option Nat}{b:Nat}{v:Value}{n:Nat}{d:List Value}{r:Option Nat}(hv:a.eval I=v)(h:uH s G b W v n d r)(p:b<=W.heap.size){E c:Nat}{news:List Value}(hx:a.eval x=.slice (some ⟨E,0,none⟩) 1 c)(hn:news.length=s)(J:∀u∈news,u.oneCell'=true)
 (X:∀(j:Nat) (u:Value),news[j]? =some u->W.cell? ⟨E,j,none⟩=some u)(V:(n+1)*i.bytes<=140737488355328)(hm:n+1<=140737488355328)
 (U:∀w k g,uH s G b k w (n+1) (d++news) (some g)->W.grownBy k r->W.drawn<=k.drawn->(r=some g\/g=W.heap.size)->
   ((g=W.heap.size/\W.grownBy k none)\/(r=some g/\∀m e,W.heap[g]? =some (.cells m e (0,0))->∃f,k.heap[g]? =some (.cells f e (0,0))/\f.size=m.size/\f.toList.take (n*s)=m.toList.take (n*s)))->wpListIn F H P q Q l (a.put o.dst w) k):wpListIn F H P q Q (o::l) a W:=by
 refine wpListIn_plain Y λK y=>?_;obtain⟨w,k,g,hr,L,M,N,O,S⟩:=h.append o.type ht Z hz C D hs p hn J X V hm;unfold Oper.wpIn;refine⟨by simp[Oper.about,B,resolve,Target.leads,Sem.run_pure],?_⟩;rw[Oper.semAt_plain F _ _ (by rw[B];intro c A;cases A)];simp[execOp,B,resolve,invoke,builtin,hv,hx,Result.andThen];rw[hr];exact y _ _ (U w k g L M N O S)
structure FX(b0:Option Nat)(W0 W:World):Prop where
 os:W.os=W0.os
 tape:W.tape=W0.tape
 output:W.output=W0.output
 size:W0.heap.size<=W.heap.size
 block:∀k,k<W0.heap.size->some k≠b0->W.heap[k]? =W0.heap[k]?
 drawn:W0.drawn<=W.drawn
theorem FX.refl(a:Option Nat)(W:World):FX a W W:=⟨rfl,rfl,rfl,A4 _,λ_ _ _=>rfl,A4 _⟩
theorem FX.step{f:Option Nat}{d W c:World}{b:Option Nat}(h:FX f d W)(a:W.grownBy c b)(j:W.drawn<=c.drawn)(l:∀r,b=some r->f=some r\/d.heap.size<=r):FX f d c:=
 ⟨a.os.trans h.os,a.tape.trans h.tape,a.output.trans h.output,B9 h.size a.size,λk i g=>(a.block k (B3 i h.size) (λe=>by rcases l k e.symm with q|q;exact g q.symm;omega)).trans (h.block k i g),B9 h.drawn j⟩
def Cl(m:Nat)(b0:Option Nat)(W0 W:World):Prop:=∀g cur0 e0,b0=some g->W0.heap[g]? =some (.cells cur0 e0 (0,0))->∃cur,W.heap[g]? =some (.cells cur e0 (0,0))/\cur.size=cur0.size/\cur.toList.take m=cur0.toList.take m
theorem Cl.refl(m:Nat)(b:Option Nat)(W:World):Cl m b W W:=λ_ a _ _ h=>⟨a,h,rfl,rfl⟩
theorem Cl.step{m:Nat}{d:Option Nat}{k W j:World}{c:Option Nat}(h:Cl m d k W)(r:W.grownBy j c)(b:d=none\/d≠c):Cl m d k j:=λg a n f o=>by
 obtain⟨i,l,p,q⟩:=h g a n f o;refine⟨i,(r.block g (A0.1 l).1 (λe=>?_)).trans l,p,q⟩;rcases b with b|b
 .rw[b]at f;cases f
 .exact b (f.trans e)
theorem Cl.write{m n:Nat}{j l:Option Nat}{q W i:World}{d:Nat}(h:Cl m j q W)(x:m<=n)(w:W.grownBy i l)
 (p:(d=W.heap.size/\W.grownBy i none)\/(l=some d/\∀b e,W.heap[d]? =some (.cells b e (0,0))->∃a,i.heap[d]? =some (.cells a e (0,0))/\a.size=b.size/\a.toList.take n=b.toList.take n)):Cl m j q i:=by
 rcases p with⟨_,o⟩|⟨f,p⟩
 .exact h.step o (by cases j<;>simp)
 .by_cases e:j=l
  .intro g c r k s;rw[e,f]at k;injection k with k;subst k
   obtain⟨b,t,u,v⟩:=h d c r (e.trans f) s;obtain⟨a,q1,q2,q3⟩:=p b r t;refine⟨a,q1,q2.trans u,?_⟩;have:=congrArg (C8 m) q3;rw[J6,J6,Nat.min_eq_left x]at this;exact this.trans v
  .exact h.step w (.inr e)
section
variable{w0:dE} {X:Nat->Prop} {H:Nat->bJ} {β:Nat->Option Nat} {w w':World} {α:Type} [Inhabited α] {k:Nat} {d:α->DV} {enc:α->List Value}
theorem Ay.flat_len(C:Ay k d enc)(l:List α):(l.flatMap enc).length=l.length*k:=by rw[<-Mo C l];simp
theorem Ay.flatD_len{α:Type}{k:Nat}{d:α->DV}{enc:α->List Value}(C:Ay k d enc)(l:List α):(bZ (l.map d)).length=l.length*k:=by
 rw[Go.Eng.flat_len (size:=k) (λx a=>by obtain⟨y,_,rfl⟩:=B4.1 a;exact C.lenD y)];simp
theorem Ay.all{α:Type}{k:Nat}{d:α->DV}{enc:α->List Value}(C:Ay k d enc)(l:List α):∀x∈l.map d,(aQ x).length=k:=λx a=>by obtain⟨y,_,rfl⟩:=B4.1 a;exact C.lenD y
theorem Ay.reads(C:Ay k d enc){l:List α}{a:Array Value}(h:a.toList.take (l.length*k)=l.flatMap enc):l.length*k<=a.size/\∀(E:Nat->Prop) (W:World) (i:Nat) (c:DV) (v:Value),(bZ (l.map d))[i]? =some c->a[i]? =some v->v.oneCell'=true/\RD W E c v:=by
 have j:=congrArg List.length h;rw[D8,C.flat_len]at j;have f:a.toList.length=a.size:=bA;refine⟨aD,λE W i c v e m=>?_⟩;have g:i<l.length*k:=by have:=(A6.1 e).1;rw[C.flatD_len]at this;exact this
 have b:(l.flatMap enc)[i]? =some v:=by rw[<-h,D0,if_pos g];simpa using m
 refine⟨?_,(zQ C l i c v e b _ _ _).2 rfl⟩;obtain⟨x,_,n⟩:=List.mem_flatMap.1 (G6 b);exact C.one x v n
theorem Ay.holds(C:Ay k d enc){l:List α}{a:Array Value}(j:l.length*k<=a.size){E:Nat->Prop}{W:World}(h:∀(i:Nat) (c:DV) (v:Value),(bZ (l.map d))[i]? =some c->a[i]? =some v->RD W E c v):a.toList.take (l.length*k)=l.flatMap enc:=by
 apply I7;intro i;rw[D0];by_cases b:i<l.length*k
 .rw[if_pos b];have e:i<a.size:=aD;have f:i<(l.flatMap enc).length:=by rw[C.flat_len];exact b
  have g:i<(bZ (l.map d)).length:=by rw[C.flatD_len];exact b
  have:=(zQ C l i _ _ (A5 g) (A5 f) W E _).1 (h i _ _ (A5 g) (H0 e));rw[A5 f,<-this];simp[e]
 .rw[if_neg b,F9 (by rw[C.flat_len];omega)]
theorem Xz(f:Nat->bJ)(i:Nat)(x y:bJ):cQ (cQ f i x) i y=cQ f i y:=by funext j;simp only[cQ];split<;>rfl
theorem dV.appended(C:Ay k d enc)(m:dV w0 X H β w){id new:Nat}{l p:List α}{L gb:Option Nat}{v:Value}(I:H id=.row false k (l.map d))(r:H new=.absent)(O:(L=none/\l=[])\/(∃b,L=some b/\β id=some b/\∃q e,w.heap[b]? =some (.cells q e (0,0))/\q.toList.take (l.length*k)=l.flatMap enc))
 (hr:uH k L w.heap.size w' v (l.length+p.length) ((l++p).flatMap enc) gb)(y:FX L w w')(hh:Cl (l.length*k) L w w'):
 ∃A,dV w0 X (cQ (cQ H id .dead) new (.row false k ((l++p).map d))) A w'/\R w' (Ex X A (cQ (cQ H id .dead) new (.row false k ((l++p).map d)))) A (cQ (cQ H id .dead) new (.row false k ((l++p).map d))) (.ow new 0 (l.length+p.length)) v:=by
 have V:id≠new:=λe=>by rw[e,r]at I;cases I
 have x:(H id).live=true:=by rw[I];rfl
 have U:(H id).mut=true:=by rw[I];rfl
 have a6:(l++p).length=l.length+p.length:=bA;obtain⟨z,n⟩:∃z:World,z={w with heap:=w'.heap.extract 0 w.heap.size}:=⟨_,rfl⟩;have S:z.heap.size=w.heap.size:=by rw[n];simp[y.size]
 have F:∀j,j<w.heap.size->z.heap[j]? =w'.heap[j]? :=λj M=>by
  rw[n];simp only[H7];have:=y.size;rw[if_pos aD];congr 1;omega
 have u:Ah z.heap.size z w':=by
  refine⟨?_,?_,?_,by rw[S];exact y.size,λj M=>(F j aD).symm,?_⟩<;>rw[n]
  .exact y.os
  .exact y.tape
  .exact y.output
  .exact y.drawn
 have J:dV w0 X H β z:=by
  rcases O with⟨rfl,_⟩|⟨b,rfl,B,q,e,f,G⟩
  .have e:z=w:=by
    have:w'.heap.extract 0 w.heap.size=w.heap:=by
     apply Array.ext_getElem?;intro j;by_cases M:j<w.heap.size
     .have Z:=F j M;rw[n]at Z;exact Z.trans (y.block j M bA)
     .have:=y.size;rw[H7,if_neg aD,F7 aD]
    rw[n,this]
   rw[e];exact m
  .obtain⟨s,q1,q2,q3⟩:=hh b q e rfl f;have a1:=(A0.1 f).1;have W:z.heap[b]? =some (.cells s e (0,0)):=(F b a1).trans q1;have:=m.rewriteG (id:=id) (b:=b) (o':=.row false k (l.map d)) (w':=z) U B (by rw[n]) (by rw[n]) (by rw[n]) (by rw[n];exact A4 _) S (λj M=>by
    by_cases Q:j<w.heap.size
    .rw[F j Q];exact y.block j Q (λe=>M (by injection e))
    .rw[F7 aD,F7 aD]) (by
    unfold bW;rw[I,aW];refine .inr ⟨⟨false,_,rfl,A4 _⟩,rfl,λb' c' t D c=>?_⟩;rw[B]at D;injection D with D;subst D
    rw[f]at c;injection c with c;injection c with p1 p2;subst p1;subst p2
    exact⟨s,e,W,q2⟩) (λ_ _=>by
    unfold dS;rw[aW];obtain⟨r1,r2⟩:=C.reads (q3.trans G);exact⟨C.pos,C.all l,.inr ⟨b,e,s,B,W,by simpa using r1,r2 _ _⟩⟩)
   rw[DI I]at this;exact this.1
 rcases hr.lies with⟨rfl,hz,a,rfl⟩|⟨g,N,q,e,rfl,rfl,a0,f,a7,a2,a3,G⟩
 .have a5:l=[]:=B6 aD;have a8:p=[]:=B6 aD;subst a5;subst a8;obtain⟨Y,_⟩:=J.kill id x;obtain⟨m3,_⟩:=Y.grow u;obtain⟨m4,_⟩:=uY m3 (d:=new) (by rw[cO _ _ (Ne.symm V)];exact r) C.pos;exact⟨_,m4,.ow0 new 0 a false k [] (by rw[aW];rfl) (.inl ⟨by rw[aW],rfl⟩)⟩
 .rw[<-a6]at G;obtain⟨r1,r2⟩:=C.reads G;have P:∀(A:Nat->Option Nat) (K:Nat->bJ),K new=.row false k ((l++p).map d)->A new=some g->R w' (Ex X A K) A K (.ow new 0 (l.length+p.length)) (.slice (some ⟨g,0,none⟩) (l.length+p.length) N):=λA K Z h2=>by
   have hR:=R.ow (w:=w') (E:=Ex X A K) (β:=A) (H:=K) new 0 (l.length+p.length) g N false k ((l++p).map d) q e Z h2 bA a7 a2 f (by rw[H6];exact a3);rw[K0]at hR;exact hR
  by_cases a9:g<w.heap.size
  .have i:L=some g:=a0.resolve_right aD;have hβ:β id=some g:=by
    rcases O with⟨h,_⟩|⟨b,h,B,_⟩
    .rw[h]at i;cases i
    .rw[h]at i;injection i with i;rw[<-i];exact B
   obtain⟨Y,_⟩:=J.grow u;obtain⟨m3,_⟩:=Y.moveObj (id:=id) (d:=new) l.length I r;have:=m3.rewriteG (id:=new) (b:=g) (o':=.row false k ((l++p).map d)) (w':=w') (by rw[aW];rfl) (by rw[aW];exact hβ) rfl rfl rfl (A4 _) rfl (λ_ _=>rfl) (by
    unfold bW;rw[aW,aW];exact .inr ⟨⟨false,_,rfl,bA⟩,rfl,λb' c' t _ c=>⟨c',t,c,rfl⟩⟩) (λ_ _=>by
    unfold dS;rw[aW];exact⟨C.pos,C.all _,.inr ⟨g,e,q,by rw[aW];exact hβ,f,by simpa using r1,r2 _ _⟩⟩)
   rw[Xz]at this;exact⟨_,this.1,P _ _ (by rw[aW]) (by rw[aW];exact hβ)⟩
  .obtain⟨Y,_⟩:=J.kill id x;have a4:=(A0.1 f).1;have:=Y.newObj u (d:=new) (by rw[cO _ _ (Ne.symm V)];exact r) (o:=.row false k ((l++p).map d)) (some g) (λb B=>by injection B with B;subst B;exact⟨aD,a4⟩) (λ_ _=>by
    unfold dS;rw[aW];exact⟨C.pos,C.all _,.inr ⟨g,e,q,by rw[aW],f,by simpa using r1,r2 _ _⟩⟩)
   exact⟨_,this.1,P _ _ (by rw[aW]) (by rw[aW])⟩
end
end
section
open Go.RowKit
section
variable{P:Program} {a:Act} {w:World} {ops:Array Oper} {Q:Exit->Act->World->Prop} {l:List Oper} {o:Oper}
theorem bN(b:o.guard=none){v:Value}{w':World}(d:(execOp a.eval o).run P w=.ok (.value v) w')(c:wpList P ops Q l (a.put o.dst v) w'):wpList P ops Q (o::l) a w:=by
 unfold wpList;rw[if_pos (by simp[Region.wanted,b])];left;unfold Oper.wp;rw[d];exact c
theorem Cn(b:o.guard=none){w':World}(d:(execOp a.eval o).run P w=.ok .skip w')(c:wpList P ops Q l (a.put o.dst undef) w'):wpList P ops Q (o::l) a w:=by
 unfold wpList;rw[if_pos (by simp[Region.wanted,b])];left;unfold Oper.wp;rw[d];exact c
theorem Jp(c:o.guard=none){f:FuncId}{vs:Array Value}{w':World}(g:(execOp a.eval o).run P w=.ok (.enter f vs) w')(d:Calls P f vs w' λe b=>∃v,e=.returned v/\wpList P ops Q l (a.put o.dst v) b):wpList P ops Q (o::l) a w:=by
 unfold wpList;rw[if_pos (by simp[Region.wanted,c])];left;unfold Oper.wp;rw[g];simp only[Oper.upon];refine d.mono ?_;rintro e b ⟨v,rfl,h⟩;exact h
theorem cE{d t:Nat}{v:Value}:(a.put (some d) v).eval (.tmp t)=if t=d/\d<a.tmps.size then v else a.eval (.tmp t):=by
 show(a.put (some d) v).tmps.getD t undef=if t=d/\d<a.tmps.size then v else a.tmps.getD t undef;simp only[Act.put,C0,D6];by_cases h:d=t
 .subst h;by_cases b:d<a.tmps.size
  .simp[b]
  .simp[b]
 .rw[if_neg h,if_neg (λe=>h e.1.symm)]
theorem cH{d:Nat}{v:Value}:(a.put (some d) v).tmps.size=a.tmps.size:=by simp[Act.put]
theorem Pp{v:Value}:a.put none v=a:=rfl
theorem Uh(b j:Nat):(⟨b,0,none⟩:Addr).add j=⟨b,j,none⟩:=by unfold Addr.add;split<;>simp_all
theorem zF{p:TypeId}(k:∀w:World,(sizeOf p).run P w=.ok 1 w){b i:Nat}{n:Int}{a:Array Value}{e:TypeId}{g:Nat×Nat}(c:w.heap[b]? =some (.cells a e g))(r:i<a.size)(m:a.size<=g.1):
 (storeVar p ⟨b,i,none⟩ (.int .u8 n)).run P w=.ok () (w.setRow b (a.setIfInBounds i (.int .u8 n))):=by
 have q:(Value.int .u8 n).cells= #[.int .u8 n]:=rfl;unfold storeVar;rw[Sem.run_bind,k];have d:w.cell? ⟨b,i,none⟩=some a[i]:=by simp[World.cell?,c,r]
 obtain⟨o,j⟩:=g;have h:w.frozen? ⟨b,i,none⟩=false:=by
  simp only[World.frozen?,c];have m:a.size<=o:=m;simp;omega
 have f:(⟨b,i,none⟩:Addr).add 0=⟨b,i,none⟩:=rfl;have l:(store ((⟨b,i,none⟩:Addr).add 0) (.int .u8 n)).run P w=.ok () (w.setRow b (a.setIfInBounds i (.int .u8 n))):=by
  rw[f,run_store P w _ _ _ rfl,d];simp[h,setCell_eq_setRow w b i a e (o,j) _ c]
 simp only[q,Result.andThen_ok,F6,G0,List.length_nil,ne_eq,not_true_eq_false,if_false,storeCells,Sem.run_bind,l];rfl
end
section
variable{P:Program} {T:TypeId->cW} {w0:dE} {X:Nat->Prop} {Q:LX->eG->dP->Prop} {env:eG} {H:dP}
theorem Jq(hT:fW P T){i1 i2 i3:Nat}{o1 o2 o3 p1 p2 p3 p4 p5 p6 p7 p8 p9 q1 q2 q3:Oper}{A:Code}{ts M l ti:TypeId}{O:FuncId}{ta:Array TypeId}
 (us:P.underlying ts=some .string)(ub:P.underlying M=some (.slice l))(ue:P.underlying l=some (.int .u8))(ui:P.underlying ti=some (.int .i64))(a1:∀w:World,(sizeOf l).run P w=.ok 1 w)
 (h1:o1.op=.move (.tmp 0))(d1:o1.dst=some 101)(g1:o1.guard=none)(h2:o2.op=.convert ts M (.tmp 101))(d2:o2.dst=some 102)(g2:o2.guard=none)
 (h3:o3.op=.assign (.tmp 102))(d3:o3.dst=some 13)(g3:o3.guard=none)
 (k1:p1.op=.move (.tmp 13))(e1:p1.dst=some 103)(f1:p1.guard=none)(k2:p2.op=.move (.tmp 1))(e2:p2.dst=some 104)(f2:p2.guard=none)
 (k3:p3.op=.move (.tmp 13))(e3:p3.dst=some 105)(f3:p3.guard=none)(k4:p4.op=.call {callee:=.builtin .len,args:= #[.tmp 105],argTypes:= #[M]})(e4:p4.dst=some 106)(f4:p4.guard=none)
 (k5:p5.op=.call {callee:=.value (.func O),args:= #[.tmp 104,.tmp 106],argTypes:=ta})(e5:p5.dst=some 107)(f5:p5.guard=none)
 (k6:p6.op=.move (.tmp 3))(e6:p6.dst=some 108)(f6:p6.guard=none)(k7:p7.op=.convert ti l (.tmp 108))(e7:p7.dst=some 109)(f7:p7.guard=none)
 (k8:p8.op=.indexAddr M (.tmp 103) (.tmp 107))(e8:p8.dst=some 110)(f8:p8.guard=none)(k9:p9.op=.store l (.tmp 110) (.tmp 109))(e9:p9.dst=none)(f9:p9.guard=none)
 (l1:q1.op=.move (.tmp 13))(m1:q1.dst=some 111)(n1:q1.guard=none)(l2:q2.op=.convert M ts (.tmp 111))(m2:q2.dst=some 112)(n2:q2.guard=none)
 (l3:q3.op=.assign (.tmp 112))(m3:q3.dst=some 8)(n3:q3.guard=none)
 {s:List UInt8}{x y:Int}{k:Nat}(v0:env 0=.d (.str s))(v1:env 1=.d (.int .i64 x))(v3:env 3=.d (.int .i64 y))(hk:k<s.length)(hA:Ok P O [.int .i64 x,.int .i64 s.length] ⟨.d (.int .i64 k),true⟩)
 (K:fF P 113 w0 X A Q (cQ (cQ (cQ (cQ (cQ (cQ (cQ (cQ (cQ (cQ (cQ (cQ (cQ (cQ env 101 .junk) 102 .junk) 13 .junk) 103 .junk) 104 .junk) 105 .junk) 106 .junk) 107 .junk) 108 .junk) 109 .junk) 110 .junk) 111 .junk) 112 .junk) 8 (.d (.str (s.set k (B7 (IntKind.u8.wrap y).toNat))))) H):
 fF P 113 w0 X (.seq (.region i1 [o1,o2,o3].toArray false) (.seq (.region i2 [p1,p2,p3,p4,p5,p6,p7,p8,p9].toArray false) (.seq (.region i3 [q1,q2,q3].toArray false) A))) Q env H:=by
 intro r hr β a w L;have o:a.tmps.size=113:=L.size;have z0:a.eval (.tmp 0)=.string ⟨s.toArray⟩:=by have h:=L.get (.tmp 0);rw[show kK env (.tmp 0)=env 0 from rfl,v0]at h;exact h.str
 have z1:a.eval (.tmp 1)=.int .i64 x:=by have h:=L.get (.tmp 1);rw[show kK env (.tmp 1)=env 1 from rfl,v1]at h;exact h.int
 have z3:a.eval (.tmp 3)=.int .i64 y:=by have h:=L.get (.tmp 3);rw[show kK env (.tmp 3)=env 3 from rfl,v3]at h;exact h.int
 obtain⟨S,hS⟩:∃S:ByteArray,S=⟨s.toArray⟩:=⟨_,rfl⟩;have E:S.size=s.length:=by rw[hS];simp[ByteArray.size]
 rw[<-hS]at z0;obtain⟨c,Z⟩:∃c,grownCap w S.size 0 l=c:=⟨_,rfl⟩;refine wpIn_seq (fI (λa w h=>kZ a w h) hr.seq1 ?_);refine bN g1 (v:=.string S) (w':=w) (by simp[execOp,h1,z0]) ?_;rw[d1];have a0:=Lib.run_convert_string_bytes (P:=P) w ts M l S us ub ue;rw[Z]at a0;refine bN g2 (v:=.slice (some ⟨w.heap.size,0,none⟩) S.size c) (w':=Lib.bytesWorld w l S) (by simp[execOp,h2,cE,o,a0]) ?_;rw[d2];refine bN g3 (v:=.slice (some ⟨w.heap.size,0,none⟩) S.size c) (w':=Lib.bytesWorld w l S) (by simp[execOp,h3,cE,cH,o]) ?_;rw[d3];have F:=Lib.bytesWorld_at_new w l S;have a3:=Lib.bytesWorld_size w l S;have t:=Lib.bytesWorld_at_old w l S;have g:Ah w.heap.size w (Lib.bytesWorld w l S):=by
  refine⟨?_,?_,?_,aD,λj hj=>t j hj,?_⟩<;>(unfold Lib.bytesWorld World.freeze;split<;>first|rfl|exact I2 w.drawn)
 obtain⟨C,hC⟩:∃C,Lib.bytesCells w l S=C:=⟨_,rfl⟩;rw[hC]at F;generalize Lib.bytesWorld w l S=w1 at F a3 t g|-;show Code.wpIn (RF r) 0 P _ _ _ _;refine wpIn_seq (fI (λa w h=>kZ a w h) hr.seq2.seq1 ?_);refine bN f1 (v:=.slice (some ⟨w.heap.size,0,none⟩) S.size c) (w':=w1) (by simp[execOp,k1,cE,cH,o]) ?_;rw[e1];refine bN f2 (v:=.int .i64 x) (w':=w1) (by simp[execOp,k2,cE,cH,o,z1]) ?_;rw[e2];refine bN f3 (v:=.slice (some ⟨w.heap.size,0,none⟩) S.size c) (w':=w1) (by simp[execOp,k3,cE,cH,o]) ?_;rw[e3];refine bN f4 (v:=.int .i64 S.size) (w':=w1) (by simp[execOp,k4,resolve,invoke,builtin,cE,cH,o,jH ub]) ?_;rw[e4];obtain⟨b0,_⟩:=L.mem.grow g;have G:=hA.2 w1 (λ_=>False) [.int .i64 x,.int .i64 s.length] ⟨λ_ h=>h.elim,b0.glob.anti λ_ h=>h.elim⟩ (.cons (.int _ _) (.cons (.int _ _) .nil));obtain⟨fn,a7,I,a6⟩:=hA.1;refine Jp f5 (f:=O) (vs:= #[.int .i64 x,.int .i64 s.length]) (w':=w1) ?_ (G.mono ?_)
 .have a5:fn.body.isNone=false:=by cases q:fn.body<;>simp_all
  simp only[execOp,k5,resolve,Deferred.ofValue,Sem.run_bind,Sem.run_pure,Result.andThen_ok,invoke,callFunc,run_program,a7,I,G8,if_false,a5,show∀a:Act,a.eval (.func O)=.func (.func O) #[] #[] from λ_=>rfl];simp[cE,cH,o,E]
 rintro _ u ⟨v,rfl,i,m⟩;obtain⟨B,m⟩:=m;have hv:v=.int .i64 k:=by
  have m:RD u _ (.int .i64 (k:Int)) v:=m;cases m;rfl
 subst hv;refine⟨.int .i64 k,rfl,?_⟩;rw[e5];refine bN f6 (v:=.int .i64 y) (w':=u) (by simp[execOp,k6,cE,cH,o,z3]) ?_;rw[e6];refine bN f7 (v:=.int .u8 (IntKind.u8.wrap y)) (w':=u) (by simp[execOp,k7,cE,cH,o,convert,run_underlying ui,run_underlying ue,Conv.intToInt]) ?_;rw[e7];refine bN f8 (v:=.pointer (some ⟨w.heap.size,k,none⟩)) (w':=u) (by simp[execOp,k8,cE,cH,o,Instr.indexAt,asIntOf,run_underlying ub,a1,E,hk,Uh]) ?_;rw[e8];have V:u.heap[w.heap.size]? =some (.cells C l (C.size,C.size+1)):=by rw[i.block _ aD];exact F
 have b3:S.size<=C.size:=by rw[<-hC];unfold Lib.bytesCells;rw[H3,J7];exact Nat.le_add_right _ _
 obtain⟨N,U⟩:∃N,C.setIfInBounds k (.int .u8 (IntKind.u8.wrap y))=N:=⟨_,rfl⟩;have a2:=zF (P:=P) (w:=u) a1 (n:=IntKind.u8.wrap y) V (show k<C.size by omega) (A4 _);rw[U]at a2;refine Cn f9 (w':=u.setRow w.heap.size N) (by simp[execOp,k9,cE,cH,o,Instr.storeAt,Instr.sureAddr,a2]) ?_;rw[e9,Pp];have W:=setRow_heap u w.heap.size C N l (C.size,C.size+1) V;have z:Ah w.heap.size w (u.setRow w.heap.size N):=by
  refine⟨i.os.trans g.os,i.tape.trans g.tape,i.output.trans g.output,?_,λj hj=>?_,B9 g.drawn i.drawn⟩
  .have:=g.size;have:=i.size;simp[World.setRow];omega
  .rw[setRow_other _ _ _ _ aD,i.block j aD,g.block j hj]
 generalize u.setRow w.heap.size N=w3 at W z|-;show Code.wpIn (RF r) 0 P _ _ _ _;refine wpIn_seq (fI (λa w h=>kZ a w h) hr.seq2.seq2.seq1 ?_);refine bN n1 (v:=.slice (some ⟨w.heap.size,0,none⟩) S.size c) (w':=w3) (by simp[execOp,l1,cE,cH,o]) ?_;rw[m1];obtain⟨D,J⟩:∃D,s.set k (B7 (IntKind.u8.wrap y).toNat)=D:=⟨_,rfl⟩;have a9:D.length=S.size:=by rw[<-J,List.length_set,E]
 have Y:=run_convert_bytes_back (P:=P) w3 M ts l ⟨w.heap.size,0,none⟩ c D ub ue us (λj hj=>by
  rw[Uh,cell_of_row w3 _ j _ l _ W,<-U,<-hC,D6];have a8:j<s.length:=aD;have hu:0<=IntKind.u8.wrap y/\IntKind.u8.wrap y<256:=by
   unfold IntKind.wrap;simp[IntKind.bits,IntKind.signed];omega
  subst J;rw[List.getElem_set];by_cases e:k=j
  .subst e;rw[if_pos rfl,if_pos (by rw[hC];omega),if_pos rfl];have hn:(B7 (IntKind.u8.wrap y).toNat).toNat=(IntKind.u8.wrap y).toNat:=by rw[I4];omega
   rw[hn,Int.toNat_of_nonneg hu.1]
  .rw[if_neg e,if_neg e];simp[Lib.bytesCells,Array.getElem?_append,hS,a8])
 rw[a9]at Y;refine bN n2 (v:=.string ⟨D.toArray⟩) (w':=w3) (by simp[execOp,l2,cE,cH,o,Y]) ?_;rw[m2];refine bN n3 (v:=.string ⟨D.toArray⟩) (w':=w3) (by simp[execOp,l3,cE,cH,o]) ?_;rw[m3];rw[J]at K;obtain⟨b,a4⟩:=L.mem.grow z;have p:∀d,d<113->Ce 113 (some d):=λd h=>h;have t1:=L.put b a4 (.junk (.string S)) (p 101 bG);have t2:=t1.put b fB.refl (.junk (.slice (some ⟨w.heap.size,0,none⟩) S.size c)) (p 102 bG);have t3:=t2.put b fB.refl (.junk (.slice (some ⟨w.heap.size,0,none⟩) S.size c)) (p 13 bG);have t4:=t3.put b fB.refl (.junk (.slice (some ⟨w.heap.size,0,none⟩) S.size c)) (p 103 bG);have t5:=t4.put b fB.refl (.junk (.int .i64 x)) (p 104 bG);have t6:=t5.put b fB.refl (.junk (.slice (some ⟨w.heap.size,0,none⟩) S.size c)) (p 105 bG);have t7:=t6.put b fB.refl (.junk (.int .i64 S.size)) (p 106 bG);have t8:=t7.put b fB.refl (.junk (.int .i64 k)) (p 107 bG);have t9:=t8.put b fB.refl (.junk (.int .i64 y)) (p 108 bG);have t10:=t9.put b fB.refl (.junk (.int .u8 (IntKind.u8.wrap y))) (p 109 bG);have t11:=t10.put b fB.refl (.junk (.pointer (some ⟨w.heap.size,k,none⟩))) (p 110 bG);have t12:=t11.put b fB.refl (.junk (.slice (some ⟨w.heap.size,0,none⟩) S.size c)) (p 111 bG);have b1:=t12.put b fB.refl (.junk (.string ⟨D.toArray⟩)) (p 112 bG);have b2:=b1.put b fB.refl (xR D) (p 8 bG);have K:=K r hr.seq2.seq2.seq2 β _ w3 b2;exact K
end
end
section
open Go.RowKit
def Jr(i:Nat)(c:UInt8):UInt8:=if c=35 then B7 (48+i)else c
def lV(s:List UInt8)(i:Nat):List UInt8:=s.map (Jr i)
section
variable{P:Program} {T:TypeId->cW} {w0:dE} {X:Nat->Prop} {a:Act} {w:World} {ops:Array Oper} {Q:Exit->Act->World->Prop} {l:List Oper} {o:Oper}
theorem lC{d:Option Nat}{v:Value}:(a.put d v).defers=a.defers:=by cases d<;>rfl
theorem tK(c:o.guard=none){b:BinOp}{t u:TypeId}{x y:Operand}(e:o.op=.binOp b t x y u){k:IntKind}{m n:Int}(g:a.eval x=.int k m)(h:a.eval y=.int k n){v:Value}
 (f:(binOp b t (.int k m) (.int k n)).run P w=.ok v w)(d:wpList P ops Q l (a.put o.dst v) w):wpList P ops Q (o::l) a w:=by
 refine bN c (v:=v) (w':=w) ?_ d;simp only[execOp,e,g,h];rw[Sem.run_bind,Sem.run_bind,Bj];simp only[Result.andThen_ok,f,Sem.run_pure]
theorem Ui(t:TypeId){m n:Int}:(binOp .lss t (.int .i64 m) (.int .i64 n)).run P w=.ok (.bool (decide (m<n))) w:=by simp[binOp,Op.intCmp]
theorem Uj(t:TypeId){m n:Int}:(binOp .eql t (.int .u8 m) (.int .u8 n)).run P w=.ok (.bool (decide (m=n))) w:=by simp[binOp,Op.intCmp,Bool.beq_eq_decide_eq]
theorem Js(t:TypeId){m n:Int}(h: -9223372036854775808<=m+n/\m+n<=9223372036854775807):(binOp .add t (.int .i64 m) (.int .i64 n)).run P w=.ok (.int .i64 (m+n)) w:=by simp[binOp,Op.intArith,IntWalk.i64_in _ h]
end
def mY(o:Oper)(op:Op)(dst:Option Nat):Prop:=o.op=op/\o.dst=dst/\o.guard=none
structure Pq(s:List UInt8)(i m k B cap:Nat)(te:TypeId)(w00:World)(df:List Deferred)(a:Act)(w:World):Prop where
 size:a.tmps.size=28
 defers:a.defers=df
 e1:a.eval (.tmp 1)=.int .i64 i
 e5:a.eval (.tmp 5)=.slice (some ⟨B,0,none⟩) s.length cap
 e6:a.eval (.tmp 6)=.int .i64 k
 row:∃C:Array Value,w.heap[B]? =some (.cells C te (C.size,C.size+1))/\s.length<=C.size/\∀j (hj:j<s.length),C[j]? =some (.int .u8 (((if j<m then Jr i s[j]else s[j]):UInt8).toNat:Nat))
 bel:Ah w00.heap.size w00 w
section
variable{P:Program} {T:TypeId->cW} {w0:dE} {X:Nat->Prop} {Q:LX->eG->dP->Prop} {env:eG} {H:dP}
theorem Re(hT:fW P T){i1 i2 i3 i4 i5 i6 i7:Nat}{a1 a2 a3 b1 c1 c2 c3 c4 d1 d2 d3 d4 d5 e1 e2 e3 e4 e5 e6 e7 f1 f2 f3 g1 g2 g3:Oper}{ts Y f ti:TypeId}{u1 u2 u3 u4:TypeId}
 (us:P.underlying ts=some .string)(ub:P.underlying Y=some (.slice f))(ue:P.underlying f=some (.int .u8))(ui:P.underlying ti=some (.int .i64))(a0:∀w:World,(sizeOf f).run P w=.ok 1 w)
 (n1:(T f).k.isNone=false)(n2:(T f).size=1)(n3:(T f).k.agg=false)
 (A1:mY a1 (.move (.tmp 0)) (some 7))(A2:mY a2 (.convert ts Y (.tmp 7)) (some 8))(A3:mY a3 (.assign (.tmp 8)) (some 5))
 (B1:mY b1 (.assign (.const (.int .i64 0))) (some 6))
 (C1:mY c1 (.move (.tmp 6)) (some 9))(C2:mY c2 (.move (.tmp 5)) (some 10))(C3:mY c3 (.call {callee:=.builtin .len,args:= #[.tmp 10],argTypes:= #[Y]}) (some 11))(C4:mY c4 (.binOp .lss u1 (.tmp 9) (.tmp 11) u2) (some 12))
 (D1:mY d1 (.move (.tmp 5)) (some 15))(D2:mY d2 (.move (.tmp 6)) (some 16))(D3:mY d3 (.indexAddr Y (.tmp 15) (.tmp 16)) (some 17))(D4:mY d4 (.load f (.tmp 17)) (some 18))(D5:mY d5 (.binOp .eql u3 (.tmp 18) (.const (.int .u8 35)) u4) (some 19))
 (E1:mY e1 (.move (.tmp 5)) (some 20))(E2:mY e2 (.move (.tmp 6)) (some 21))(E3:mY e3 (.move (.tmp 1)) (some 22))(E4:mY e4 (.binOp .add u1 (.const (.int .i64 48)) (.tmp 22) u2) (some 23))(E5:mY e5 (.convert ti f (.tmp 23)) (some 24))
 (E6:mY e6 (.indexAddr Y (.tmp 20) (.tmp 21)) (some 25))(E7:mY e7 (.store f (.tmp 25) (.tmp 24)) none)
 (F1:mY f1 (.move (.tmp 6)) (some 13))(F2:mY f2 (.binOp .add u1 (.tmp 13) (.const (.int .i64 1)) u2) (some 14))(F3:mY f3 (.assign (.tmp 14)) (some 6))
 (G1:mY g1 (.move (.tmp 5)) (some 26))(G2:mY g2 (.convert Y ts (.tmp 26)) (some 27))(G3:mY g3 (.assign (.tmp 27)) (some 4))
 {s:List UInt8}{i:Nat}(v0:env 0=.d (.str s))(v1:env 1=.d (.int .i64 i))(hi:i<=9)(hs:s.length<=1000000000)
 (K:Q .ret (λt=>if t=4 then .d (.str (lV s i))else .junk) H):
 fF P 28 w0 X (.seq (.region i1 [a1,a2,a3].toArray false) (.seq (.seq (.region i2 [b1].toArray false) (.block 0 (.loop (.seq (.seq (.region i3 [c1,c2,c3,c4].toArray false) (.cond (.tmp 12) .skip (.exit 0)))
  (.seq (.block 1 (.seq (.region i5 [d1,d2,d3,d4,d5].toArray false) (.cond (.tmp 19) (.region i6 [e1,e2,e3,e4,e5,e6,e7].toArray false) .skip))) (.region i4 [f1,f2,f3].toArray false)))))) (.seq (.region i7 [g1,g2,g3].toArray false) .ret))) Q env H:=by
 intro r hr β a w sm;have hN:a.tmps.size=28:=sm.size;have z0:a.eval (.tmp 0)=.string ⟨s.toArray⟩:=by have h:=sm.get (.tmp 0);rw[show kK env (.tmp 0)=env 0 from rfl,v0]at h;exact h.str
 have z1:a.eval (.tmp 1)=.int .i64 i:=by have h:=sm.get (.tmp 1);rw[show kK env (.tmp 1)=env 1 from rfl,v1]at h;exact h.int
 obtain⟨S,hS⟩:∃S:ByteArray,S=⟨s.toArray⟩:=⟨_,rfl⟩;have c0:S.size=s.length:=by rw[hS];simp[ByteArray.size]
 rw[<-hS]at z0;obtain⟨c,a7⟩:∃c,grownCap w S.size 0 f=c:=⟨_,rfl⟩;refine wpIn_seq (fI (λa w h=>kZ a w h) hr.seq1 ?_);refine bN A1.2.2 (v:=.string S) (w':=w) (by simp[execOp,A1.1,z0]) ?_;rw[A1.2.1];have a8:=Lib.run_convert_string_bytes (P:=P) w ts Y f S us ub ue;rw[a7]at a8;refine bN A2.2.2 (v:=.slice (some ⟨w.heap.size,0,none⟩) S.size c) (w':=Lib.bytesWorld w f S) (by simp[execOp,A2.1,cE,hN,a8]) ?_;rw[A2.2.1];refine bN A3.2.2 (v:=.slice (some ⟨w.heap.size,0,none⟩) S.size c) (w':=Lib.bytesWorld w f S) (by simp[execOp,A3.1,cE,cH,hN]) ?_;rw[A3.2.1];have Z:=Lib.bytesWorld_at_new w f S;have b6:=Lib.bytesWorld_size w f S;have D:=Lib.bytesWorld_at_old w f S;have U:Ah w.heap.size w (Lib.bytesWorld w f S):=by
  refine⟨?_,?_,?_,aD,λj l=>D j l,?_⟩<;>(unfold Lib.bytesWorld World.freeze;split<;>first|rfl|exact I2 w.drawn)
 have A:∀j (l:j<s.length),(Lib.bytesCells w f S)[j]? =some (.int .u8 ((s[j]:UInt8).toNat:Nat)):=λj l=>by
  have c8:j<S.data.size:=by have:S.data.size=S.size:=rfl;omega
  unfold Lib.bytesCells;rw[G9 (by simpa using c8)];simp[hS,l]
 have a5:s.length<=(Lib.bytesCells w f S).size:=by unfold Lib.bytesCells;rw[H3,J7];have:S.data.size=S.size:=rfl;omega
 generalize Lib.bytesCells w f S=C at Z A a5;generalize Lib.bytesWorld w f S=w1 at Z b6 D U|-;show Code.wpIn (RF r) 0 P _ _ _ _;refine wpIn_seq (wpIn_seq (fI (λa w h=>kZ a w h) hr.seq2.seq1.seq1 ?_));refine bN B1.2.2 (v:=.int .i64 0) (w':=w1) (by simp[execOp,B1.1,show∀a:Act,∀v,a.eval (.const v)=v from λ_ _=>rfl]) ?_;rw[B1.2.1];show Code.wpIn (RF r) 0 P _ _ _ _;have N:=hr.seq2.seq1.seq2.block.loop;refine wpIn_block (vG (λn G z=>∃k,n=s.length-k/\k<=s.length/\Pq s i k k w.heap.size c f w a.defers G z) s.length ⟨0,rfl,I1 _,⟨?_,?_,?_,?_,?_,⟨C,Z,a5,λj l=>by rw[if_neg (J4 _)];exact A j l⟩,U⟩⟩ ?_)
 .simp[cH,hN]
 .simp[lC]
 .simp[cE,z1]
 .simp[cE,cH,hN,c0]
 .simp[cE,cH,hN]
 rintro n b g ⟨k,rfl,hk,J⟩;obtain⟨V,jd,j1,j5,j6,⟨o,jb,jC,jc⟩,d⟩:=J;refine wpIn_seq (wpIn_seq (fI (λa w h=>kZ a w h) N.seq1.seq1 ?_));refine bN C1.2.2 (v:=.int .i64 k) (w':=g) (by simp[execOp,C1.1,j6]) ?_;rw[C1.2.1];refine bN C2.2.2 (v:=.slice (some ⟨w.heap.size,0,none⟩) s.length c) (w':=g) (by simp[execOp,C2.1,cE,j5]) ?_;rw[C2.2.1];refine bN C3.2.2 (v:=.int .i64 s.length) (w':=g) (by simp[execOp,C3.1,resolve,invoke,builtin,cE,cH,V,jH ub]) ?_;rw[C3.2.1];refine tK C4.2.2 C4.1 (k:=.i64) (m:=k) (n:=s.length) (by simp[cE,cH,V]) (by simp[cE,cH,V]) (Ui _) ?_;rw[C4.2.1];show Code.wpIn (RF r) 0 P _ _ _ _;refine wpIn_cond (by simp[cE,cH,V]:Act.eval _ _=.bool (decide ((k:Int)<(s.length:Int)))) ?_;by_cases M:k<s.length
 .rw[decide_eq_true aD];refine wpIn_skip ?_;show Code.wpIn (RF r) 0 P _ _ _ _;obtain⟨b2,L⟩:∃b2,(((b.put (some 9) (.int .i64 k)).put (some 10) (.slice (some ⟨w.heap.size,0,none⟩) s.length c)).put (some 11) (.int .i64 s.length)).put (some 12) (.bool (decide ((k:Int)<(s.length:Int))))=b2:=⟨_,rfl⟩;have j2:Pq s i k k w.heap.size c f w a.defers b2 g:=by
   rw[<-L];exact⟨by simp[cH,V],by simp[lC,jd],by simp[cE,j1],by simp[cE,j5],by simp[cE,j6],⟨o,jb,jC,jc⟩,d⟩
  rw[decide_eq_true (show(k:Int)<(s.length:Int)by omega)]at L;rw[L];clear L;obtain⟨F,d7,d6,b7,b8, -, -⟩:=j2;have W:∀b' z,Pq s i (k+1) k w.heap.size c f w a.defers b' z->(Code.region i4 [f1,f2,f3].toArray false).wpIn (RF r) 0 P (Exit.then (λG z=>∃m,m<s.length-k/\∃k,m=s.length-k/\k<=s.length/\Pq s i k k w.heap.size c f w a.defers G z) (Exit.inBlock 0 (Exit.then (λG z=>Code.wpIn (RF r) 0 P (.seq (.region i7 [g1,g2,g3].toArray false) .ret) (λe G z=>∃x p H' β',gR e x/\mG 28 w0 X p H' β' G z/\Q x p H') G z) (λe G z=>∃x p H' β',gR e x/\mG 28 w0 X p H' β' G z/\Q x p H')))) b' z:=by
   rintro b' z ⟨t1,t2,t3,t4,t5,t6,t7⟩;refine fI (λa w h=>kZ a w h) N.seq2.seq2 ?_;refine bN F1.2.2 (v:=.int .i64 k) (w':=z) (by simp[execOp,F1.1,t5]) ?_;rw[F1.2.1];refine tK F2.2.2 F2.1 (k:=.i64) (m:=k) (n:=1) (by simp[cE,cH,t1]) rfl (Js _ aD) ?_;rw[F2.2.1];refine bN F3.2.2 (v:=.int .i64 (k+1)) (w':=z) (by simp[execOp,F3.1,cE,cH,t1]) ?_;rw[F3.2.1];show∃m,_;exact⟨s.length-(k+1),aD,k+1,rfl,M,⟨by simp[cH,t1],by simp[lC,t2],by simp[cE,t3],by simp[cE,t4],by simp[cE,cH,t1],t6,t7⟩⟩
  refine wpIn_seq (wpIn_block (wpIn_seq (fI (λa w h=>kZ a w h) N.seq2.seq1.block.seq1 ?_)));refine bN D1.2.2 (v:=.slice (some ⟨w.heap.size,0,none⟩) s.length c) (w':=g) (by simp[execOp,D1.1,b7]) ?_;rw[D1.2.1];refine bN D2.2.2 (v:=.int .i64 k) (w':=g) (by simp[execOp,D2.1,cE,b8]) ?_;rw[D2.2.1];refine bN D3.2.2 (v:=.pointer (some ⟨w.heap.size,k,none⟩)) (w':=g) (by simp[execOp,D3.1,cE,cH,F,Instr.indexAt,asIntOf,run_underlying ub,a0,M,Uh]) ?_;rw[D3.2.1];obtain⟨x,hx⟩:∃x,s[k]=x:=⟨_,rfl⟩;have a4:=jc k M;rw[if_neg (Nat.lt_irrefl k),hx]at a4;have b0:=uX (P:=P) (w:=g) hT n1 (b:=w.heap.size) (off:=k) (us:=[.int .u8 (x.toNat:Nat)]) (by simp[n2]) (λ_=>n2) (λj u l=>by
   cases j with
   |zero=>
    have l:some (Value.int .u8 (x.toNat:Nat))=some u:=l;rw[<-l];show g.cell? ⟨w.heap.size,k,none⟩=_;simp only[World.cell?,jb];exact a4
   |succ j=>cases j<;>cases l)
  rw[n3]at b0;refine bN D4.2.2 (v:=.int .u8 (x.toNat:Nat)) (w':=g) (by
   simp only[execOp,D4.1,Instr.loadAt,Instr.sureAddr,cE,cH,F,Sem.run_bind,Sem.run_pure,Result.andThen_ok];simp[b0]) ?_
  rw[D4.2.1];refine tK D5.2.2 D5.1 (k:=.u8) (m:=(x.toNat:Nat)) (n:=35) (by simp[cE,cH,F]) rfl (Uj _) ?_;rw[D5.2.1];show Code.wpIn (RF r) 0 P _ _ _ _;obtain⟨q,hq⟩:∃q,decide (((x.toNat:Nat):Int)=35)=q:=⟨_,rfl⟩;rw[hq];obtain⟨O,y⟩:∃O,((((b2.put (some 15) (.slice (some ⟨w.heap.size,0,none⟩) s.length c)).put (some 16) (.int .i64 k)).put (some 17) (.pointer (some ⟨w.heap.size,k,none⟩))).put (some 18) (.int .u8 (x.toNat:Nat))).put (some 19) (.bool q)=O:=⟨_,rfl⟩;have kN:O.tmps.size=28:=by rw[<-y];simp[cH,F]
  have kd:O.defers=a.defers:=by rw[<-y];simp[lC,d7]
  have k1:O.eval (.tmp 1)=.int .i64 i:=by rw[<-y];simp[cE,d6]
  have k5:O.eval (.tmp 5)=.slice (some ⟨w.heap.size,0,none⟩) s.length c:=by rw[<-y];simp[cE,b7]
  have k6:O.eval (.tmp 6)=.int .i64 k:=by rw[<-y];simp[cE,b8]
  have d8:O.eval (.tmp 19)=.bool q:=by rw[<-y];simp[cE,cH,F]
  rw[y];clear y;refine wpIn_cond d8 ?_;cases q with
  |true=>
   have E:x=35:=by
    have:x.toNat=35:=by have:=of_decide_eq_true hq;omega
    exact UInt8.toNat_inj.1 (by rw[this];rfl)
   refine fI (λa w h=>kZ a w h) N.seq2.seq1.block.seq2.cond1 ?_;refine bN E1.2.2 (v:=.slice (some ⟨w.heap.size,0,none⟩) s.length c) (w':=g) (by simp[execOp,E1.1,k5]) ?_;rw[E1.2.1];refine bN E2.2.2 (v:=.int .i64 k) (w':=g) (by simp[execOp,E2.1,cE,k6]) ?_;rw[E2.2.1];refine bN E3.2.2 (v:=.int .i64 i) (w':=g) (by simp[execOp,E3.1,cE,k1]) ?_;rw[E3.2.1];refine tK E4.2.2 E4.1 (k:=.i64) (m:=48) (n:=i) rfl (by simp[cE,cH,kN]) (Js _ aD) ?_;rw[E4.2.1];refine bN E5.2.2 (v:=.int .u8 (IntKind.u8.wrap (48+i))) (w':=g) (by simp[execOp,E5.1,cE,cH,kN,convert,run_underlying ui,run_underlying ue,Conv.intToInt]) ?_;rw[E5.2.1];refine bN E6.2.2 (v:=.pointer (some ⟨w.heap.size,k,none⟩)) (w':=g) (by simp[execOp,E6.1,cE,cH,kN,Instr.indexAt,asIntOf,run_underlying ub,a0,M,Uh]) ?_;rw[E6.2.1];have b5:=zF (P:=P) (w:=g) a0 (n:=IntKind.u8.wrap (48+i)) jb (show k<o.size by omega) (A4 _);obtain⟨B,I⟩:∃B,o.setIfInBounds k (.int .u8 (IntKind.u8.wrap (48+i)))=B:=⟨_,rfl⟩;rw[I]at b5;refine Cn E7.2.2 (w':=g.setRow w.heap.size B) (by simp[execOp,E7.1,cE,cH,kN,Instr.storeAt,Instr.sureAddr,b5]) ?_;rw[E7.2.1,Pp];refine W _ _ ⟨by simp[cH,kN],by simp[lC,kd],by simp[cE,k1],by simp[cE,k5],by simp[cE,k6],⟨B,?_,?_,λj l=>?_⟩,?_⟩
   .have:=setRow_heap g w.heap.size o B f (o.size,o.size+1) jb;have d0:B.size=o.size:=by rw[<-I];simp
    rw[d0];exact this
   .rw[<-I];simpa using jC
   .rw[<-I,D6];by_cases e:k=j
    .subst e;rw[if_pos rfl,if_pos aD,if_pos (J0 _),hx,E];have:Jr i 35=B7 (48+i):=rfl;rw[this,I4];have h2:IntKind.u8.wrap (48+(i:Int))=(((48+i)%256:Nat):Int):=by
      unfold IntKind.wrap;simp[IntKind.bits,IntKind.signed]
     rw[h2]
    .rw[if_neg e,jc j l];by_cases h:j<k
     .rw[if_pos h,if_pos aD]
     .rw[if_neg h,if_neg aD]
   .refine⟨d.os,d.tape,d.output,?_,λj l=>?_,d.drawn⟩
    .have:=d.size;simp[World.setRow];omega
    .rw[setRow_other _ _ _ _ aD];exact d.block j l
  |false=>
   have E:x≠35:=by
    rintro rfl;simp at hq
   refine wpIn_skip ?_;refine W _ _ ⟨kN,kd,k1,k5,k6,⟨o,jb,jC,λj l=>?_⟩,d⟩;by_cases e:k=j
   .subst e;rw[if_pos (J0 _),hx,a4];have:Jr i x=x:=by unfold Jr;rw[if_neg E]
    rw[this]
   .rw[jc j l];by_cases h:j<k
    .rw[if_pos h,if_pos aD]
    .rw[if_neg h,if_neg aD]
 .rw[decide_eq_false aD];have c9:k=s.length:=aD;subst c9;refine wpIn_exit ?_;show Code.wpIn (RF r) 0 P _ _ _ _;refine wpIn_seq (fI (λa w h=>kZ a w h) hr.seq2.seq2.seq1 ?_);refine bN G1.2.2 (v:=.slice (some ⟨w.heap.size,0,none⟩) s.length c) (w':=g) (by simp[execOp,G1.1,cE,j5]) ?_;rw[G1.2.1];have a6:=run_convert_bytes_back (P:=P) g Y ts f ⟨w.heap.size,0,none⟩ c (lV s i) ub ue us (λj l=>by
   have a9:j<s.length:=by simpa [lV]using l
   rw[Uh];simp only[World.cell?,jb];rw[jc j a9,if_pos a9];simp[lV])
  have c7:(lV s i).length=s.length:=by simp[lV]
  rw[c7]at a6;refine bN G2.2.2 (v:=.string ⟨(lV s i).toArray⟩) (w':=g) (by simp[execOp,G2.1,cE,cH,V,a6]) ?_;rw[G2.2.1];refine bN G3.2.2 (v:=.string ⟨(lV s i).toArray⟩) (w':=g) (by simp[execOp,G3.1,cE,cH,V]) ?_;rw[G3.2.1];show Code.wpIn (RF r) 0 P _ _ _ _;have b9:∀b4:Act,b4.tmps.size=28->b4.defers=a.defers->mG 28 w0 X (λt=>if t=4 then .d (.str (lV s i))else .junk) H β (b4.put (some 4) (.string ⟨(lV s i).toArray⟩)) g:=by
   intro b4 c5 c6;obtain⟨m',g'⟩:=sm.mem.grow d;refine⟨?_,?_,m'.ext,m'.xold,m'.fresh,m'.inj,λt=>?_,m'.obj,m'.pin⟩
   .rw[lC,c6];exact g'.marks sm.defers
   .simp[cH,c5]
   .show R g _ β H _ ((b4.put (some 4) _).eval (.tmp t));rw[cE];by_cases e:t=4
    .subst e;rw[if_pos rfl,if_pos (And.intro rfl aD)];exact xR _
    .rw[if_neg e];exact .junk _
  exact wpIn_ret ⟨.ret,_,H,β,trivial,b9 _ (by simp[cH,V]) (by simp[lC,jd]),K⟩
end
end
section
open Go.RowKit Go.Maps
open Go.ChangeMaps (setBlock)
theorem Az:∀(l:List MapEntry) (j:Nat) (d:j<l.length),(l.map (·.born)).Nodup->l.filter (λx=>decide (x.born≠l[j].born))=l.eraseIdx j
 |a::l,0,_,h=>by
  have c:=(G7.1 h).1;rw[List.getElem_cons_zero,List.eraseIdx_cons_zero,List.filter_cons_of_neg bA];rw[List.filter_eq_self];intro x f;simp only[ne_eq,decide_eq_true_eq];intro e;exact c (B4.2 ⟨x,f,e⟩)
 |a::l,j+1,d,h=>by
  have b:j<l.length:=by simpa using d
  have c:=(G7.1 h).1;rw[List.getElem_cons_succ,List.eraseIdx_cons_succ,List.filter_cons_of_pos,Az l j b (G7.1 h).2];simp only[ne_eq,decide_eq_true_eq];intro e;exact c (B4.2 ⟨l[j],J1 b,e.symm⟩)
theorem Rf(b:Array MapEntry)(a:Array Nat)(n:Nat):(b.filter λx=> !(a.push n).contains x.born).toList=(b.filter λx=> !a.contains x.born).toList.filter λx=>decide (x.born≠n):=by
 rw[E8,E8,List.filter_filter];congr 1;funext x;simp[Bool.and_comm]
theorem Uk{b:Array MapEntry}{a:Nat}(h:gF b a):(b.toList.map (·.born)).Nodup:=by
 rw[List.Nodup,List.pairwise_map,List.pairwise_iff_getElem];intro i j d f c e;have:=h.2 i j _ _ bA bA e;omega
section
variable{P:Program} {T:TypeId->cW} {N:Nat} {w0:dE} {X:Nat->Prop} {Q:LX->eG->dP->Prop} {env:eG} {H:dP}
theorem HC{r9 d0 bx b1 it E F d3 d4 d5 id:Nat}{o1 o2 p1 p2 p3:Oper}{U:Code}{ks vs:List DV}
 (z:o1.op=.next (.tmp it) false)(e1:o1.dst=some E)(g1:o1.guard=none)(t:o2.op=.extract (.tmp E) 0)(e2:o2.dst=some F)(g2:o2.guard=none)
 (k1:p1.op=.entry (.tmp it))(f1:p1.dst=some d3)(i1:p1.guard=none)(k2:p2.op=.extract (.tmp d3) 0)(f2:p2.dst=some d4)(i2:p2.guard=none)
 (k3:p3.op=.assign (.tmp d4))(f3:p3.dst=some d5)(i3:p3.guard=none)
 (u:E<N/\F<N/\d3<N/\d4<N/\d5<N)(K:it≠E/\it≠F)(hv:env it=.it id)(hH:H id=.iter false ks vs)
 (Y:ks=[]->Q (.exit bx) (cQ (cQ env E .junk) F .junk) H)
 (Z:∀(j:Nat) (hj:j<ks.length),fF P N w0 X U (vF b1 Q) (cQ (cQ (cQ (cQ (cQ env E .junk) F .junk) d3 .junk) d4 .junk) d5 (.d ks[j])) (cQ H id (.iter false (ks.eraseIdx j) (vs.eraseIdx j)))):
 fF P N w0 X (.seq (.region r9 [o1,o2].toArray false) (.seq (.cond (.tmp F) .skip (.exit bx)) (.block b1 (.seq (.region d0 [p1,p2,p3].toArray false) U)))) Q env H:=by
 intro r hr β a w s;have hz:a.tmps.size=N:=s.size;have a5:=s.obj id;unfold dS at a5;rw[hH]at a5;obtain⟨b,C,l,b8,g,c,hb,A,a4,c1,D,n,a3,c7,d7,M,b7⟩:=a5;subst a3;have a1:a.eval (.tmp it)=.pointer (some ⟨b,0,none⟩):=by
  have h:=s.get (.tmp it);rw[show kK env (.tmp it)=env it from rfl,hv]at h;generalize a.eval (.tmp it)=v at h;cases h with
  |it _ b' fz ks' vs' hH' hb'=>rw[hb]at hb';injection hb' with e;subst e;rfl
  |itdead _ _ hH'=>rw[hH]at hH';cases hH'
 have b2:C≠b:=λe=>by subst e;rw[A]at D;cases D
 have b5:∀x∈l.toList,x.born<c:=λx hx=>by
  obtain⟨i,hi,c4⟩:=C9 hx;exact n.1 i x (by rw[<-c4];simp)
 have ok:∀d,d<N->Ce N (some d):=λd h=>h;refine wpIn_seq (fI (λa w h=>kZ a w h) hr.seq1 ?_);rcases run_next_at (P:=P) w o1.type b C c c g l c A D b5 (A4 _)with⟨h0,B⟩|⟨e,he,V,c0,B⟩
 .refine bN g1 (v:=.tuple #[.bool false]) (w':=w) (by simp[execOp,z,a1,B]) ?_;rw[e1];refine bN g2 (v:=.bool false) (w':=w) (by simp[execOp,t,cE,hz,u.1,Instr.extract]) ?_;rw[e2];have t1:=s.put s.mem fB.refl (.junk (.tuple #[.bool false])) (ok E u.1);have t2:=t1.put s.mem fB.refl (.junk (.bool false)) (ok F u.2.1);show Code.wpIn (RF r) 0 P _ _ _ _;refine wpIn_seq (wpIn_cond_false (by simp[cE,cH,hz,u.2.1]) (wpIn_exit ?_));refine⟨.exit bx,_,_,β,rfl,t2,Y (B6 ?_)⟩;rw[c7];exact h0
 .refine bN g1 (v:=.tuple #[.bool true,e.key,e.val]) (w':=setBlock V b (.mapIter (some C) c (g.push e.born) c)) (by simp[execOp,z,a1,B]) ?_;rw[e1];refine bN g2 (v:=.bool true) (w':=setBlock V b (.mapIter (some C) c (g.push e.born) c)) (by simp[execOp,t,cE,hz,u.1,Instr.extract]) ?_;rw[e2];obtain⟨y,o⟩:∃y,setBlock V b (.mapIter (some C) c (g.push e.born) c)=y:=⟨_,rfl⟩;rw[o];obtain⟨c8,a6,b6,c2,p⟩:V.os=w.os/\V.tape=w.tape/\V.output=w.output/\w.drawn<=V.drawn/\V.heap=w.heap:=by
   rcases c0 with rfl|rfl
   .exact⟨rfl,rfl,rfl,A4 _,rfl⟩
   .exact⟨rfl,rfl,rfl,I2 _,rfl⟩
  have b0:b<w.heap.size:=(A0.1 A).1;have O:y.heap[b]? =some (.mapIter (some C) c (g.push e.born) c):=by
   rw[<-o];simp[setBlock,p,b0]
  have S:∀k,k≠b->y.heap[k]? =w.heap[k]? :=λk hk=>by
   rw[<-o];simp only[setBlock,p];exact F8 (λe=>hk e.symm)
  have c9:y.heap.size=w.heap.size:=by rw[<-o];simp[setBlock,p]
  have J:y.heap[C]? =some (.map l c):=(S C b2).trans D;obtain⟨L,G⟩:∃L,(l.filter λx=> !g.contains x.born).toList=L:=⟨_,rfl⟩;have a0:e∈L:=by rw[<-G];exact he
  have c3:e∈l.toList:=by
   rw[<-G,E8]at a0;exact(List.mem_filter.1 a0).1
  have b3:=run_entry_at (P:=P) y b C c g l c e O J c3 (Uk n);obtain⟨j,hj,b4⟩:=C9 a0;have d6:(l.filter λx=> !g.contains x.born).size=L.length:=by rw[<-G,E0]
  have b9:(L.map (·.born)).Nodup:=by
   rw[<-G,E8];exact List.Nodup.sublist (List.Sublist.map _ List.filter_sublist) (Uk n)
  have a8:(l.filter λx=> !(g.push e.born).contains x.born).toList=L.eraseIdx j:=by
   rw[Rf,G,<-b4,Az L j hj b9]
  have I:(l.filter λx=> !(g.push e.born).contains x.born).size=(L.eraseIdx j).length:=by rw[<-a8,E0]
  have a2:j<ks.length:=aD;have c5:j<vs.length:=aD;have a9:∀(f:MapEntry->Value) (ds:List DV),(∀(i:Nat) (d:DV) (x:MapEntry),ds[i]? =some d->(l.filter λx=> !g.contains x.born)[i]? =some x->RD w (Ex X β H) d (f x))->
   ∀(i:Nat) (d:DV) (x:MapEntry),(ds.eraseIdx j)[i]? =some d->(l.filter λx=> !(g.push e.born).contains x.born)[i]? =some x->RD w (Ex X β H) d (f x):=λf ds h i d x K hx=>by
   rw[<-C7,a8,H9]at hx;rw[H9]at K;split at hx
   .rename_i q;rw[if_pos q]at K;exact h i d x K (by rw[<-C7,G];exact hx)
   .rename_i q;rw[if_neg q]at K;exact h (i+1) d x K (by rw[<-C7,G];exact hx)
  obtain⟨m2,a7⟩:=s.mem.rewriteG (id:=id) (b:=b) (o':=.iter false (ks.eraseIdx j) (vs.eraseIdx j)) (w':=y) (by rw[hH];rfl) hb (by rw[<-o];exact c8) (by rw[<-o];exact a6) (by rw[<-o];exact b6) (by rw[<-o];exact c2) c9 S
   (by unfold bW;rw[hH,aW];exact .inr ⟨⟨false,_,_,rfl⟩,rfl⟩) (λhD _=>by
     unfold dS;rw[aW];refine⟨b,C,l,c,g.push e.born,c,hb,O,?_,aD,J,n,rfl,?_,?_,λi d x z t=>hD _ _ (a9 (·.key) ks M i d x z t),λi d x z t=>hD _ _ (a9 (·.val) vs b7 i d x z t)⟩
     .rintro(h|⟨i,z,t⟩)
      .exact a4 (.inl h)
      .by_cases hi:i=id
       .subst hi;exact a4 (.inr ⟨i,by rw[hH];rfl,t⟩)
       .rw[cO _ _ hi]at z;exact a4 (.inr ⟨i,z,t⟩)
     .rw[I,C6 hj,C6 a2];omega
     .rw[I,C6 hj,C6 c5];omega)
  have c6:RD y (Ex X β (cQ H id (.iter false (ks.eraseIdx j) (vs.eraseIdx j)))) ks[j] e.key:=a7.D (M j _ e (A5 a2) (by rw[<-C7,G,A5 hj,b4]));have t1:=s.put m2 a7 (.junk (.tuple #[.bool true,e.key,e.val])) (ok E u.1);have t2:=t1.put m2 fB.refl (.junk (.bool true)) (ok F u.2.1);have t3:=t2.put m2 fB.refl (.junk (.tuple #[e.key,e.val])) (ok d3 u.2.2.1);have t4:=t3.put m2 fB.refl (.junk e.key) (ok d4 u.2.2.2.1);have t5:=t4.put m2 fB.refl (.d _ _ c6) (ok d5 u.2.2.2.2);show Code.wpIn (RF r) 0 P _ _ _ _;refine wpIn_seq (wpIn_cond_true (by simp[cE,cH,hz,u.2.1]) (wpIn_skip ?_));show Code.wpIn (RF r) 0 P _ _ _ _;refine wpIn_block (wpIn_mono (Q:=λe a' w'=>∃x m W β',gR e x/\mG N w0 X m W β' a' w'/\vF b1 Q x m W) (wpIn_seq (fI (λa w h=>kZ a w h) hr.seq2.seq2.block.seq1 ?_)) ?_)
  .refine bN i1 (v:=.tuple #[e.key,e.val]) (w':=y) (by simp[execOp,k1,cE,cH,hz,K.1,K.2,a1,b3]) ?_;rw[f1];refine bN i2 (v:=e.key) (w':=y) (by simp[execOp,k2,cE,cH,hz,u.2.2.1,Instr.extract]) ?_;rw[f2];refine bN i3 (v:=e.key) (w':=y) (by simp[execOp,k3,cE,cH,hz,u.2.2.2.1]) ?_;rw[f3];exact Z j a2 r hr.seq2.seq2.block.seq2 β _ y t5
  .rintro e a' w' ⟨lx,m,W,β',z,t,h3⟩;cases e<;>cases lx<;>simp only[gR]at z
   .exact⟨.normal,m,W,β',trivial,t,h3⟩
   .subst z;simp only[Exit.inBlock,vF]at h3|-;split at h3
    .rename_i he;rw[if_pos he];exact⟨.normal,m,W,β',trivial,t,h3⟩
    .rename_i he;rw[if_neg he];exact⟨.exit _,m,W,β',rfl,t,h3⟩
   .exact⟨.ret,m,W,β',trivial,t,h3⟩
end
end
section
abbrev aV:=List UInt8
structure Nm where
 who:Int
 seq:Int
 deriving DecidableEq,Inhabited
structure Df where
 name:aV
 text:aV
 deriving DecidableEq,Inhabited
structure Ed where
 name:Nm
 needs:List Nm
 puts:List Df
 drops:List aV
 deriving DecidableEq,Inhabited
abbrev aI(n:Int):DV:=.int .i64 n
def Nm.d(n:Nm):DV:=.agg [.int .i64 n.who,.int .i64 n.seq]
def Df.d(d:Df):DV:=.agg [.str d.name,.str d.text]
def aBe(l:List Nm):DV:=.sl (l.map Nm.d)
def gB(l:List Df):DV:=.sl (l.map Df.d)
def AA(l:List aV):DV:=.sl (l.map .str)
def Ed.d(e:Ed):DV:=.agg [.int .i64 e.name.who,.int .i64 e.name.seq,.sl (e.needs.map Nm.d),.sl (e.puts.map Df.d),.sl (e.drops.map .str)]
def aBf(l:List Ed):DV:=.sl (l.map Ed.d)
theorem HD{α β:Type}{f:α->β}{a:List α}:C8 a.length (B2 f a)=B2 f a:=I0 bA
theorem HE{α β:Type}{f:α->β}{l:List α}{t:List β}:C8 l.length (B2 f l++t)=B2 f l:=by rw[List.take_append_of_le_length bA,I0 bA]
theorem vU{α:Type}{k n:Nat}{l:List α}{x:α}(h:x∈(l.drop k).take n):x∈l:=B8 (A7 h)
theorem Mp{l:List Nm}{y:DV}(h:y∈l.map Nm.d):(aQ y).length=2/\∀c∈aQ y,memless c=true:=by
 obtain⟨a,_,rfl⟩:=B4.1 h;exact⟨rfl,by simp[Nm.d,aQ,memless]⟩
theorem Mq{l:List Df}{y:DV}(h:y∈l.map Df.d):(aQ y).length=2/\∀c∈aQ y,memless c=true:=by
 obtain⟨a,_,rfl⟩:=B4.1 h;exact⟨rfl,by simp[Df.d,aQ,memless]⟩
theorem HF{l:List aV}{y:DV}(h:y∈l.map DV.str):(aQ y).length=1/\∀c∈aQ y,memless c=true:=by
 obtain⟨a,_,rfl⟩:=B4.1 h;exact⟨rfl,by simp[aQ,memless]⟩
theorem Mr{l:List Ed}{y:DV}(h:y∈l.map Ed.d):(aQ y).length=5:=by
 obtain⟨a,_,rfl⟩:=B4.1 h;rfl
section
variable{l:List Nm} {m:List Df} {r:List aV} {e:List Ed} {k n:Nat}
theorem aBg:(∀y∈C8 k (B2 Nm.d l),(aQ y).length=2)↔True:=iff_true_intro λ_ h=>(Mp (A7 h)).1
theorem aBh:(∀y∈D9 k (B2 Nm.d l),(aQ y).length=2)↔True:=iff_true_intro λ_ h=>(Mp (B8 h)).1
theorem aAt:(∀y∈C8 n (D9 k (B2 Nm.d l)),(aQ y).length=2)↔True:=iff_true_intro λ_ h=>(Mp (vU h)).1
theorem aBi:(∀y∈C8 k (B2 Df.d m),(aQ y).length=2)↔True:=iff_true_intro λ_ h=>(Mq (A7 h)).1
theorem aBj:(∀y∈D9 k (B2 Df.d m),(aQ y).length=2)↔True:=iff_true_intro λ_ h=>(Mq (B8 h)).1
theorem aAu:(∀y∈C8 n (D9 k (B2 Df.d m)),(aQ y).length=2)↔True:=iff_true_intro λ_ h=>(Mq (vU h)).1
theorem aAv:(∀y∈C8 k (B2 DV.str r),(aQ y).length=1)↔True:=iff_true_intro λ_ h=>(HF (A7 h)).1
theorem aAw:(∀y∈D9 k (B2 DV.str r),(aQ y).length=1)↔True:=iff_true_intro λ_ h=>(HF (B8 h)).1
theorem Zw:(∀y∈C8 n (D9 k (B2 DV.str r)),(aQ y).length=1)↔True:=iff_true_intro λ_ h=>(HF (vU h)).1
theorem aBk:(∀y∈C8 k (B2 Ed.d e),(aQ y).length=5)↔True:=iff_true_intro λ_ h=>Mr (A7 h)
theorem aBl:(∀y∈D9 k (B2 Ed.d e),(aQ y).length=5)↔True:=iff_true_intro λ_ h=>Mr (B8 h)
theorem aAx:(∀y∈C8 n (D9 k (B2 Ed.d e)),(aQ y).length=5)↔True:=iff_true_intro λ_ h=>Mr (vU h)
end
def XA{α:Type}(p:α->Bool)(l:List α)(i:Nat):Prop:=∀j (h:j<l.length),j<i->p l[j]=false
theorem XA.zero{α:Type}{p:α->Bool}{l:List α}:XA p l 0:=λ_ _ h=>absurd h (J4 _)
theorem XA.succ{α:Type}{p:α->Bool}{l:List α}{i:Nat}(h:XA p l i)(d:i<l.length)(c:p l[i]=false):XA p l (i+1):=λj a b=>by
 by_cases e:j=i
 .subst e;exact c
 .exact h j a aD
theorem XA.found{α:Type}{p:α->Bool}{l:List α}{i:Nat}(h:XA p l i)(a:i<l.length)(c:p l[i]=true):l.findIdx? p=some i:=by
 rw[List.findIdx?_eq_some_iff_getElem];exact⟨a,c,λj b=>by rw[h j aD b];simp⟩
theorem XA.none{α:Type}{p:α->Bool}{l:List α}{i:Nat}(h:XA p l i)(hi:l.length<=i):l.findIdx? p=none:=by
 rw[List.findIdx?_eq_none_iff];intro x b;obtain⟨j,a,rfl⟩:=C9 b;exact h j a aD
theorem Zx{α:Type}{p:α->Bool}{l:List α}{i:Nat}(a:i<l.length)(b:p l[i]=true):l.any p=true:=List.any_eq_true.2 ⟨_,J1 a,b⟩
theorem HG{α:Type}{a b:List α}{i:Nat}(h:a.take i=b.take i)(f:i<a.length)(g:i<b.length)(e:a[i]=b[i]):a.take (i+1)=b.take (i+1):=by
 have c:a.take (i+1)=a.take i++[a[i]]:=bA;have d:b.take (i+1)=b.take i++[b[i]]:=bA;rw[c,d,h,e]
def bT(n m:Int):Int:=(if n<0 then -(n+1)else n).tmod m
def dM(l:List Int)(i m:Int):Int:=if i<0\/l.length<=i then 0 else bT (l.getD i.toNat 0) m
def kQ{α:Type}(p:α->Bool)(out:List α):Nat->Nat
 |0=>0
 |k+1=>match out[k]? with
  |some y=>if p y then kQ p out k else k+1
  |none=>k+1
def iP{α:Type}(k:Nat)(x:α)(out:List α):List α:=out.take k++x::out.drop k
theorem sJ{α:Type}{p:α->Bool}{a:List α}{k:Nat}(h:∀i,k=i+1->∀(c:i<a.length),p a[i]=false):kQ p a k=k:=by
 cases k with
 |zero=>rfl
 |succ k=>
  simp only[kQ];cases q:a[k]? with
  |none=>rfl
  |some y=>
   obtain⟨b,rfl⟩:=A6.1 q;simp[h k rfl b]
theorem AB{α:Type}{p:α->Bool}{out:List α}{k:Nat}(a:k<out.length)(h:p out[k]=true):kQ p out (k+1)=kQ p out k:=by
 simp only[kQ,A5 a,h,if_true]
theorem Da{α:Type}{p:α->Bool}{out:List α}:∀k,kQ p out k<=k
 |0=>A4 _
 |k+1=>by
  simp only[kQ];cases out[k]? with
  |none=>exact A4 _
  |some y=>simp only;split;exact Nat.le_succ_of_le (Da k);exact A4 _
theorem tL{α:Type}{k:Nat}{x:α}{a:List α}:(iP k x a).length=a.length+1:=by
 unfold iP;simp;omega
theorem dN(n m:Int)(a:0<m):0<=bT n m/\bT n m<m:=by
 unfold bT;split
 .exact⟨J5 _ aD,I5 _ a⟩
 .exact⟨J5 _ aD,I5 _ a⟩
end
section
inductive Nd where
 |mk (kind:Int) (text:aV) (n:Int) (kids:List Nd)
instance:Inhabited Nd:=⟨.mk 0 [] 0 []⟩
def Nd.kind:Nd->Int| .mk k _ _ _=>k
def Nd.text:Nd->aV| .mk _ t _ _=>t
def Nd.n:Nd->Int| .mk _ _ n _=>n
def Nd.kids:Nd->List Nd| .mk _ _ _ ks=>ks
@[simp] theorem dX{k:Int}{t:aV}{n:Int}{a:List Nd}:(Nd.mk k t n a).kind=k:=rfl
@[simp] theorem gH{k:Int}{t:aV}{n:Int}{a:List Nd}:(Nd.mk k t n a).text=t:=rfl
@[simp] theorem pF{k:Int}{t:aV}{n:Int}{a:List Nd}:(Nd.mk k t n a).n=n:=rfl
@[simp] theorem iG{k:Int}{t:aV}{n:Int}{a:List Nd}:(Nd.mk k t n a).kids=a:=rfl
mutual
theorem iU{p:Nd->Prop}(h:∀k t n a,(∀x∈a,p x)->p (.mk k t n a)):∀x,p x
 | .mk k t n a=>h k t n a (Pr h a)
theorem Pr{p:Nd->Prop}(h:∀k t n b,(∀x∈b,p x)->p (.mk k t n b)):∀(b:List Nd),∀x∈b,p x
 |[],_,hx=>by cases hx
 |a::r,x,hx=>by
  rcases H4.1 hx with e|e
  .rw[e];exact iU h a
  .exact Pr h r x e
end
mutual
def Nd.d:Nd->DV
 | .mk k t n ks=>.agg [aI k,.str t,aI n,.sl (Ul ks)]
def Ul:List Nd->List DV
 |[]=>[]
 |x::r=>x.d::Ul r
end
theorem ndsL_map:∀a:List Nd,Ul a=a.map Nd.d
 |[]=>by simp[Ul]
 |x::r=>by rw[Ul,ndsL_map r];rfl
theorem Nd.d_eq(x:Nd):x.d=.agg [aI x.kind,.str x.text,aI x.n,.sl (x.kids.map Nd.d)]:=by
 cases x with|mk k t n ks=>rw[Nd.d,ndsL_map];rfl
def ndsD(l:List Nd):DV:=.sl (l.map Nd.d)
theorem nd_len(x:Nd):(aQ x.d).length=4:=by rw[Nd.d_eq];rfl
theorem nd_mem{l:List Nd}{y:DV}(h:y∈l.map Nd.d):(aQ y).length=4:=by
 obtain⟨a,_,rfl⟩:=B4.1 h;exact nd_len a
section
variable{l:List Nd} {k n:Nat}
theorem nd_t:(∀y∈C8 k (B2 Nd.d l),(aQ y).length=4)↔True:=iff_true_intro λ_ h=>nd_mem (A7 h)
theorem nd_dr:(∀y∈D9 k (B2 Nd.d l),(aQ y).length=4)↔True:=iff_true_intro λ_ h=>nd_mem (B8 h)
theorem nd_td:(∀y∈C8 n (D9 k (B2 Nd.d l)),(aQ y).length=4)↔True:=iff_true_intro λ_ h=>nd_mem (vU h)
end
mutual
def sizeN:Nd->Nat
 | .mk _ _ _ ks=>sizeL ks+1
def sizeL:List Nd->Nat
 |[]=>0
 |x::r=>sizeN x+sizeL r
end
mutual
def depthN:Nd->Nat
 | .mk _ _ _ ks=>depthL ks+1
def depthL:List Nd->Nat
 |[]=>0
 |x::r=>max (depthN x) (depthL r)
end
mutual
def weighN:Nd->Nat
 | .mk _ t _ ks=>weighL ks+t.length+1
def weighL:List Nd->Nat
 |[]=>0
 |x::r=>weighN x+weighL r
end
theorem depthN_eq(x:Nd):depthN x=depthL x.kids+1:=by cases x;rw[depthN];rfl
theorem weighN_eq(x:Nd):weighN x=weighL x.kids+x.text.length+1:=by cases x;rw[weighN];rfl
theorem weighL_append:∀(a b:List Nd),weighL (a++b)=weighL a+weighL b
 |[],b=>by simp[weighL]
 |x::a,b=>by rw[H5,weighL,weighL,weighL_append a b,Nat.add_assoc]
theorem depthL_append:∀(a b:List Nd),depthL (a++b)=max (depthL a) (depthL b)
 |[],b=>by simp[depthL]
 |x::a,b=>by rw[H5,depthL,depthL,depthL_append a b,Nat.max_assoc]
theorem depthL_succ{l:List Nd}{i:Nat}(a:i<l.length):depthL (l.take (i+1))=max (depthL (l.take i)) (depthN l[i]):=by
 rw[<-List.take_append_getElem a,depthL_append];simp[depthL]
theorem weigh_mem:∀{l:List Nd} {x:Nd},x∈l->weighN x<=weighL l
 |[],_,h=>by cases h
 |a::l,x,h=>by
  rw[weighL];rcases H4.1 h with e|e
  .rw[e];omega
  .have:=weigh_mem e;omega
theorem weigh_len:∀{l:List Nd},l.length<=weighL l
 |[]=>I1 _
 |a::l=>by
  have:=weigh_len (l:=l);have h:1<=weighN a:=by rw[weighN_eq];omega
  rw[weighL,G0];omega
theorem size_weigh(x:Nd):sizeN x<=weighN x:=by
 refine iU (p:=λx=>sizeN x<=weighN x) (λk t n d b=>?_) x;rw[sizeN,weighN];have:∀l:List Nd,(∀x∈l,sizeN x<=weighN x)->sizeL l<=weighL l:=λl=>by
  induction l with
  |nil=>intro _;simp[sizeL,weighL]
  |cons a l b=>intro h;have:=b λx c=>h x (A8 _ c);have:=h a (E9 ..);rw[sizeL,weighL];omega
 have:=this d b;omega
theorem depth_size(x:Nd):depthN x<=sizeN x:=by
 refine iU (p:=λx=>depthN x<=sizeN x) (λk t n d b=>?_) x;rw[depthN,sizeN];have:∀l:List Nd,(∀x∈l,depthN x<=sizeN x)->depthL l<=sizeL l:=λl=>by
  induction l with
  |nil=>intro _;simp[sizeL,depthL]
  |cons a l b=>intro h;have:=b λx c=>h x (A8 _ c);have:=h a (E9 ..);rw[sizeL,depthL];omega
 have:=this d b;omega
mutual
def sameN:Nd->Nd->Bool
 | .mk k t n ks,.mk k' t' n' ks'=>decide (k=k')&&decide (t=t')&&decide (n=n')&&sameL ks ks'
def sameL:List Nd->List Nd->Bool
 |[],[]=>true
 |a::r,b::s=>sameN a b&&sameL r s
 |_,_=>false
end
mutual
theorem sameN_iff:∀a b:Nd,sameN a b=true↔a=b
 | .mk k t n ks,.mk k' t' n' ks'=>by
   rw[sameN];simp only[C5,decide_eq_true_eq,sameL_iff ks ks',Nd.mk.injEq];exact⟨λ⟨⟨⟨a,b⟩,c⟩,d⟩=>⟨a,b,c,d⟩,λ⟨a,b,c,d⟩=>⟨⟨⟨a,b⟩,c⟩,d⟩⟩
theorem sameL_iff:∀a b:List Nd,sameL a b=true↔a=b
 |[],[]=>by simp[sameL]
 |[],b::s=>by simp[sameL]
 |a::r,[]=>by simp[sameL]
 |a::r,b::s=>by
  rw[sameL];simp only[C5,sameN_iff a b,sameL_iff r s,List.cons.injEq]
end
instance:DecidableEq Nd:=λa b=>decidable_of_iff _ (sameN_iff a b)
end
def wordsL:List aV:=[[118,97,114],[114,101,99],[99,104,97,110],[108,111,99,107],[102,105,108,101],[112,114,111,99],[116,101,115,116],[],[],[],[],[105,102],[119,104,105,108,101],[103,111],[99,97,108,108],[115,101,110,100],[114,101,99,118],[97,99,113,117,105,114,101],[114,101,108,101,97,115,101],[100,114,97,119],[110,111,119],[115,108,101,101,112],[119,114,105,116,101],[114,101,97,100],[99,104,101,99,107],[97,108,108,111,99]]
def boundsL:List (Int×Int):=[(-999,999),(0,0),(0,3),(0,0),(0,0),(0,0),(0,0),(-999,999),(0,0),(0,0),(0,0),(0,0),(0,0),(0,0),(0,0),(0,0),(0,0),(0,0),(0,0),(2,6),(0,0),(1,9),(0,0),(0,0),(0,0),(1,99),(0,0),(0,0),(0,0),(0,0),(0,0),(0,0),(0,999),(0,0),(0,0),(0,0),(0,0)]
def opsL:List (aV×Int):=[([60],1),([60,61],1),([61,61],1),([43],2),([45],2),([42],3)]
def sElse:aV:=[101,108,115,101]
def sKind:aV:=[107,105,110,100]
theorem words_len:wordsL.length=26:=rfl
theorem bounds_len:boundsL.length=37:=rfl
def letterB(c:UInt8):Bool:=decide (97<=c)&&decide (c<=122)
def digitB(c:UInt8):Bool:=decide (48<=c)&&decide (c<=57)
def runP(p:UInt8->Bool):aV->Nat
 |[]=>0
 |c::r=>if p c then runP p r+1 else 0
theorem runP_le(p:UInt8->Bool):∀s:aV,runP p s<=s.length
 |[]=>A4 _
 |c::r=>by
  have:=runP_le p r;unfold runP;split<;>simp only[G0]<;>omega
theorem runP_all{p:UInt8->Bool}:∀{s:aV} {i:Nat} (h:i<s.length),i<runP p s->p s[i]=true
 |c::r,0,_,h=>by
  unfold runP at h;split at h
  .assumption
  .omega
 |c::r,i+1,hi,h=>by
  unfold runP at h;split at h
  .simpa using runP_all (s:=r) (by simpa using hi) aD
  .omega
theorem runP_stop{p:UInt8->Bool}:∀{s:aV} (h:runP p s<s.length),p s[runP p s]=false
 |[],h=>by simp at h
 |c::r,h=>by
  by_cases q:p c=true
  .have e:runP p (c::r)=runP p r+1:=(by rw[runP,if_pos q]);have a:runP p r<r.length:=by rw[e]at h;simpa using h
   have:=runP_stop a;simp only[e];simpa using this
  .have e:runP p (c::r)=0:=(by rw[runP,if_neg q]);simp only[e];simpa using q
theorem runP_eq{p:UInt8->Bool}{s:aV}{n:Nat}(d:n<=s.length)(h:∀i (c:i<n),p (s[i]'aD)=true)(b:∀a:n<s.length,p s[n]=false):runP p s=n:=by
 rcases Nat.lt_trichotomy (runP p s) n with q|q|q
 .have:=runP_stop (p:=p) (s:=s) aD;rw[h _ q]at this;cases this
 .exact q
 .have a:=runP_le p s;have:=runP_all (p:=p) (show n<s.length by omega) q;rw[b aD]at this;cases this
def wordN(s:aV):Nat:=match s with
 |[]=>0
 |c::_=>if letterB c then(if runP (λc=>letterB c||digitB c) s<=16 then runP (λc=>letterB c||digitB c) s else 0)else 0
def signs:aV:=[40,41,123,125,61,43,45,42,60,59,46]
def nextN(s:aV):Nat:=match s with
 |[]=>0
 |c::r=>if letterB c then wordN s else if c=36 then(if 0<wordN r then wordN r+1 else 0)
  else if digitB c then(if runP digitB s<=3 then runP digitB s else 0)
  else if s.take 2=[60,61]\/s.take 2=[61,61]then 2 else if c∈signs then 1 else 0
def reservedB(s:aV):Bool:=decide (s=sElse)||decide (s=sKind)||decide (s∈wordsL)
def isNameB(s:aV):Bool:=match s with
 |[]=>false
 |c::_=>letterB c&& !reservedB s
def wholeB(s:aV)(named:Bool):Bool:=decide (s≠[])&&decide (wordN s=s.length)&&(!named||isNameB s)
def decS(n:Nat):aV:=if n<10 then [B7 (48+n)]else if n<100 then [B7 (48+n / 10),B7 (48+n%10)]else [B7 (48+n / 100),B7 (48+n / 10%10),B7 (48+n%10)]
def itoaS(n:Int):aV:=if n<0 then 45::decS n.natAbs else decS n.toNat
def wordAt(k:Int):aV:=wordsL.getD k.toNat []
def loAt(k:Int):Int:=(boundsL.getD k.toNat (0,0)).1
def hiAt(k:Int):Int:=(boundsL.getD k.toNat (0,0)).2
def signAt(k:Int):aV:=(opsL.getD (k-26).toNat ([],0)).1
def levelAt(k:Int):Int:=(opsL.getD (k-26).toNat ([],0)).2
def isStmtK(k:Int):Bool:=decide (9<=k)&&decide (k<=25)
def isItemK(k:Int):Bool:=decide (k=7)
def isBlockK(k:Int):Bool:=decide (k=8)
def isExprK(k:Int):Bool:=decide (26<=k)&&decide (k<=36)
theorem isExprK_iff{k:Int}:isExprK k=true↔26<=k/\k<=36:=by simp[isExprK]
theorem isStmtK_iff{k:Int}:isStmtK k=true↔9<=k/\k<=25:=by simp[isStmtK]
def isPlaceK(k:Int):Bool:=decide (k=34)||decide (k=35)
theorem isPlaceK_iff{k:Int}:isPlaceK k=true↔k=34\/k=35:=by simp[isPlaceK]
def isLocalK(k:Int):Bool:=decide (k=33)
def kidsB:List Nd->List (Int->Bool)->Bool
 |[],[]=>true
 |x::r,f::l=>f x.kind&&kidsB r l
 |_,_=>false
def shapedK(k:Int)(ks:List Nd):Bool:=
 if k=1 then ks.all λy=>isItemK y.kind
 else if k=8 then ks.all λy=>isStmtK y.kind
 else if k=5\/k=6 then kidsB ks [isBlockK]
 else if k=9\/k=15\/k=22\/k=24 then kidsB ks [isExprK]
 else if k=10 then kidsB ks [isPlaceK,isExprK]
 else if k=11 then kidsB ks [isExprK,isBlockK]||kidsB ks [isExprK,isBlockK,isBlockK]
 else if k=12 then kidsB ks [isExprK,isBlockK]
 else if k=16\/k=23 then kidsB ks [isLocalK]
 else if 26<=k/\k<=31 then kidsB ks [isExprK,isExprK]
 else kidsB ks []
def shapedB(x:Nd):Bool:=shapedK x.kind x.kids
def cutAt(c:UInt8):aV->Option (aV×aV)
 |[]=>none
 |d::r=>if d=c then some ([],r)else(cutAt c r).map λq=>(d::q.1,q.2)
def fieldB(t:aV):Bool:=match cutAt 46 t with
 |some (a,b)=>wholeB a true&&wholeB b true
 |none=>false
def textB(k:Int)(t:aV):Bool:=
 if k=9\/k=19\/k=20\/k=33 then wholeB t false
 else if k=35 then fieldB t
 else if k=8\/k=10\/k=11\/k=12\/k=21\/k=24\/k=25\/(26<=k/\k<=32)\/k=36 then decide (t=[])
 else wholeB t true
def wordedK(k:Int)(t:aV)(n:Int):Bool:=decide (loAt k<=n)&&decide (n<=hiAt k)&&textB k t
def wordedB(x:Nd):Bool:=wordedK x.kind x.text x.n
mutual
def rightN:Nd->Bool
 | .mk k t n ks=>decide (0<=k)&&decide (k<37)&&shapedB (.mk k t n ks)&&wordedB (.mk k t n ks)&&rightL ks
def rightL:List Nd->Bool
 |[]=>true
 |x::r=>rightN x&&rightL r
end
theorem rightL_all:∀l:List Nd,rightL l=l.all rightN
 |[]=>rfl
 |x::r=>by rw[rightL,rightL_all r];rfl
theorem right_mk{k:Int}{t:aV}{n:Int}{ks:List Nd}:rightN (.mk k t n ks)=true↔0<=k/\k<37/\shapedK k ks=true/\loAt k<=n/\n<=hiAt k/\textB k t=true/\∀x∈ks,rightN x=true:=by
 rw[rightN,rightL_all];have h:shapedB (.mk k t n ks)=shapedK k ks:=rfl;have i:wordedB (.mk k t n ks)=wordedK k t n:=rfl;rw[h,i];simp only[C5,decide_eq_true_eq,wordedK,List.all_eq_true];exact⟨λ⟨⟨⟨⟨a,b⟩,c⟩,⟨d,e⟩,f⟩,g⟩=>⟨a,b,c,d,e,f,g⟩,λ⟨a,b,c,d,e,f,g⟩=>⟨⟨⟨⟨a,b⟩,c⟩,⟨d,e⟩,f⟩,g⟩⟩
theorem rightN_eq(x:Nd):rightN x=(decide (0<=x.kind)&&decide (x.kind<37)&&shapedB x&&wordedB x&&x.kids.all rightN):=by
 cases x;rw[rightN,rightL_all];rfl
def paren(c:Bool)(t:aV):aV:=if c then 40::t++[41]else t
def lvlN(k:Int):Int:=if 26<=k/\k<=31 then levelAt k else 4
def exprT:Nd->aV
 | .mk k t n ks=>if k=32 then itoaS n else if k=33 then 36::t else if k=36 then sKind else if k=34\/k=35 then t else match ks with
   |[a,b]=>paren (decide (lvlN a.kind<(if levelAt k=1 then 2 else levelAt k))) (exprT a)++32::(signAt k++32::paren (decide (lvlN b.kind<levelAt k+1)) (exprT b))
   |_=>[]
def withN(n:Int):aV:=if 0<n then 32::itoaS n else []
def withE(ks:List Nd):aV:=ks.flatMap λx=>32::exprT x
def midT(k:Int)(t:aV):aV:=if k=19\/k=20 then 32::36::t else if k=21\/k=25\/k=24 then []else 32::t
mutual
def stmtT:Nd->aV
 | .mk k t n ks=>if k=9 then(match ks with|[e]=>36::t++32::61::32::(exprT e++[59])|_=>[])
   else if k=10 then(match ks with|[p,e]=>exprT p++32::61::32::(exprT e++[59])|_=>[])
   else if k=11\/k=12 then(match ks with
    |[e,b]=>wordAt k++32::(exprT e++32::blockT b)
    |[e,b,c]=>wordAt k++32::(exprT e++32::blockT b)++32::(sElse++32::blockT c)
    |_=>[])
   else wordAt k++midT k t++withN n++withE ks++[59]
def blockT:Nd->aV
 | .mk _ _ _ ks=>123::32::(stmtsT ks++[125])
def stmtsT:List Nd->aV
 |[]=>[]
 |x::r=>stmtT x++32::stmtsT r
end
def itemT(x:Nd):aV:=x.text++32::61::32::(itoaS x.n++[59,32])
def textT(x:Nd):aV:=
 let o:=wordAt x.kind++32::x.text
 if x.kind=5\/x.kind=6 then(match x.kids with|[b]=>o++32::blockT b|_=>[])
 else if x.kind=1 then o++32::123::32::(x.kids.flatMap itemT++[125])
 else if x.kind=0 then o++32::61::32::(itoaS x.n++[59])
 else if x.kind=2 then o++32::(itoaS x.n++[59])
 else o++[59]
def validB(x:Nd):Bool:=decide (0<=x.kind)&&decide (x.kind<=6)&&decide (depthN x<=24)&&rightN x&&decide ((textT x).length<=1024)
def printS(x:Nd):aV:=if validB x then textT x else []
structure Tk where
 text:aV
 at_:Int
 deriving DecidableEq,Inhabited
def Tk.d(t:Tk):DV:=.agg [.str t.text,aI t.at_]
def scanF:Nat->aV->Int->List Tk×Int
 |0,_,i=>([],i)
 |f+1,s,i=>match s with
  |[]=>([],i)
  |c::r=>if c=32\/c=10 then scanF f r (i+1)else if nextN s=0 then([],i)else
   (⟨s.take (nextN s),i⟩::(scanF f (s.drop (nextN s)) (i+nextN s)).1,(scanF f (s.drop (nextN s)) (i+nextN s)).2)
def scanS(s:aV):List Tk×Int:=scanF s.length s 0
structure PS where
 l:List Tk
 e:Int
 deriving DecidableEq,Inhabited
def PS.peek(p:PS):aV:=if p.e≠0 then []else match p.l with|[]=>[]|t::_=>t.text
def PS.fail(p:PS)(e:Int):PS:=if p.e=0 then⟨p.l,e⟩else p
def PS.skip(p:PS):PS:=⟨p.l.tail,p.e⟩
def PS.is(p:PS)(s:aV):Bool:=decide (s≠[])&&decide (p.peek=s)
def PS.took(p:PS)(s:aV):PS:=if p.is s then p.skip else p
def PS.need(p:PS)(s:aV):PS:=if p.is s then p.skip else p.fail 2
def nameP(p:PS):aV×PS:=if isNameB p.peek then(p.peek,p.skip)else([],p.fail 2)
def localP(p:PS):aV×PS:=match p.peek with
 |36::r=>(r,p.skip)
 |_=>([],p.fail 2)
def valS(s:aV):Int:=s.foldl (λn c=>10*n+((c.toNat:Int)- 48)) 0
def numeralP(k:Int)(p:PS):Int×PS:=match p.peek with
 |[]=>(0,p.fail 2)
 |c::r=>if digitB c then(if valS (c::r)<loAt k\/hiAt k<valS (c::r)then(0,p.fail 5)else(valS (c::r),p.skip))else(0,p.fail 2)
def numberP(p:PS):Int×PS:=if p.is [45]then(-(numeralP 0 p.skip).1,(numeralP 0 p.skip).2)else numeralP 0 p
def placeP(p:PS):Nd×PS:=
 if(nameP p).2.is [46]then(.mk 35 ((nameP p).1++46::(nameP (nameP p).2.skip).1) 0 [],(nameP (nameP p).2.skip).2)
 else(.mk 34 (nameP p).1 0 [],(nameP p).2)
def opI(lv:Int)(s:aV):Int:=match(J8 6).find? (λi=>decide ((opsL.getD i ([],0)).2=lv)&&decide ((opsL.getD i ([],0)).1=s))with
 |some i=>i
 |none=> -1
def opP(lv:Int)(p:PS):Int×PS:=(opI lv p.peek,if 0<=opI lv p.peek then p.skip else p)
def chainF(lv:Int)(x:PS->Nd×PS):Nat->Nd->PS->Nd×PS
 |0,n,p=>(n,p)
 |f+1,n,p=>if p.e≠0 then(n,p)else if(opP lv p).1<0 then(n,(opP lv p).2)else
  chainF lv x f (.mk (26+(opP lv p).1) [] 0 [n,(x (opP lv p).2).1]) (x (opP lv p).2).2
def chainP(lv:Int)(x:PS->Nd×PS)(p:PS):Nd×PS:=chainF lv x ((x p).2.l.length+1) (x p).1 (x p).2
def factP(ex:PS->Nd×PS)(p:PS):Nd×PS:=
 if p.is [40]then((ex p.skip).1,(ex p.skip).2.need [41])
 else if p.is sKind then(.mk 36 [] 0 [],p.skip)
 else match p.peek with
  |c::_=>if digitB c then(.mk 32 [] (numeralP 32 p).1 [],(numeralP 32 p).2)else if c=36 then(.mk 33 (localP p).1 0 [],(localP p).2)else placeP p
  |[]=>placeP p
def prodP(ex:PS->Nd×PS)(p:PS):Nd×PS:=chainP 3 (factP ex) p
def sumP(ex:PS->Nd×PS)(p:PS):Nd×PS:=chainP 2 (prodP ex) p
def exprB(ex:PS->Nd×PS)(p:PS):Nd×PS:=
 let a:=sumP ex p
 if 0<=(opP 1 a.2).1 then(.mk (26+(opP 1 a.2).1) [] 0 [a.1,(sumP ex (opP 1 a.2).2).1],(sumP ex (opP 1 a.2).2).2)else(a.1,(opP 1 a.2).2)
def zeroNd:Nd:=.mk 0 [] 0 []
def exprP(r:Bool):Nat->PS->Nd×PS
 |0,p=>(default,p)
 |f+1,p=>if r=true/\p.e≠0 then(zeroNd,p)else exprB (exprP r f) p
def stmtsF(st:PS->Nd×PS):Nat->List Nd->PS->List Nd×PS
 |0,ks,p=>(ks,p)
 |f+1,ks,p=>if p.e≠0\/p.peek=[125]then(ks,p)else stmtsF st f (ks++[(st p).1]) (st p).2
def blockB(st:PS->Nd×PS)(p:PS):Nd×PS:=
 let q:=p.need [123]
 let r:=stmtsF st (q.l.length+1) [] q
 (.mk 8 [] 0 r.1,r.2.need [125])
def wordI(s:aV):Int:=match(J8 26).find? (λi=>decide (wordsL.getD i []=s))with
 |some i=>i
 |none=> -1
def kindP(s:aV):Int:=if s=[]then -1 else wordI s
def cmdP(ex:PS->Nd×PS)(k:Int)(p:PS):Nd×PS:=
 let a:aV×PS:=if k=19\/k=20 then localP p else if k=21\/k=25\/k=24 then([],p)else nameP p
 if k=15\/k=22\/k=24 then(.mk k a.1 0 [(ex a.2).1],(ex a.2).2)
 else if k=16\/k=23 then(.mk k a.1 0 [.mk 33 (localP a.2).1 0 []],(localP a.2).2)
 else if k=19\/k=21\/k=25 then(.mk k a.1 (numeralP k a.2).1 [],(numeralP k a.2).2)
 else(.mk k a.1 0 [],a.2)
def stmtB(ex bl:PS->Nd×PS)(p:PS):Nd×PS:=
 let k:=kindP p.peek
 if k=11\/k=12 then
  let e:=ex p.skip
  let b:=bl e.2
  if k=11/\b.2.is sElse=true then(.mk k [] 0 [e.1,b.1,(bl b.2.skip).1],(bl b.2.skip).2)else(.mk k [] 0 [e.1,b.1],b.2)
 else if 12<k then((cmdP ex k p.skip).1,(cmdP ex k p.skip).2.need [59])
 else match p.peek with
  |36::_=>(.mk 9 (localP p).1 0 [(ex ((localP p).2.need [61])).1],(ex ((localP p).2.need [61])).2.need [59])
  |_=>(.mk 10 [] 0 [(placeP p).1,(ex ((placeP p).2.need [61])).1],(ex ((placeP p).2.need [61])).2.need [59])
def stmtP(r:Bool):Nat->PS->Nd×PS
 |0,p=>(default,p)
 |f+1,p=>stmtB (λq=>exprP r (q.l.length+1) q) (blockB (stmtP r f)) p
def blockP(r:Bool)(f:Nat)(p:PS):Nd×PS:=blockB (stmtP r f) p
def itemsF:Nat->List Nd->PS->List Nd×PS
 |0,ks,p=>(ks,p)
 |f+1,ks,p=>if p.e≠0\/p.peek=[125]then(ks,p)else
  let a:=nameP p
  let v:=numberP (a.2.need [61])
  itemsF f (ks++[.mk 7 a.1 v.1 []]) (v.2.need [59])
def defKind(s:aV):Int:=if s=[]then -1 else(match(J8 7).find? (λi=>decide (wordsL.getD i []=s))with|some i=>(i:Int)|none=> -1)
def defP(r:Bool)(p:PS):Nd×PS:=
 let k:=defKind p.peek
 if k<0 then(.mk 0 [] 0 [],p.fail 2)else
 let a:=nameP p.skip
 if k=5\/k=6 then(.mk k a.1 0 [(blockP r (a.2.l.length+1) a.2).1],(blockP r (a.2.l.length+1) a.2).2)
 else if k=1 then
  let q:=a.2.need [123]
  let t:=itemsF (q.l.length+1) [] q
  (.mk k a.1 0 t.1,t.2.need [125])
 else if k=0 then(.mk k a.1 (numberP (a.2.need [61])).1 [],(numberP (a.2.need [61])).2.need [59])
 else if k=2 then(.mk k a.1 (numeralP 2 a.2).1 [],(numeralP 2 a.2).2.need [59])
 else(.mk k a.1 0 [],a.2.need [59])
def parseS(s:aV):Nd×Int×Int:=
 if 1024<s.length then(zeroNd,1024,4)else
 let t:=scanS s
 let r:=defP false ⟨t.1,0⟩
 match r.2.l with
 |x::_=>(zeroNd,x.at_,if r.2.e≠0 then r.2.e else 2)
 |[]=>if r.2.e≠0\/t.2<s.length then(zeroNd,t.2,2)else if validB r.1 then(r.1,0,0)else(zeroNd,0,4)
example:(parseS [118,97,114,32,110,61,45,55,59]).1=.mk 0 [110] (-7) []:=bG
example:parseS [99,104,97,110,32,99,32,52,59]=(zeroNd,7,5):=bG
example:parseS [116,101,115,116,32,116,32,123,32,120,32,61,32,59,32,125]=(zeroNd,13,2):=bG
example:parseS [108,111,99,107,32,108]=(zeroNd,6,2):=bG
example:parseS [118,97,114,32,114,101,97,100,32,61,32,49,59]=(zeroNd,4,2):=bG
example:sizeN (parseS [112,114,111,99,32,112,123,36,97,61,40,120,46,121,43,49,41,42,50,59,105,102,32,36,97,60,51,123,103,111,32,113,59,125,101,108,115,101,123,125,125]).1=15:=bG
example:printS (parseS [112,114,111,99,32,112,123,36,97,61,40,120,46,121,43,49,41,42,50,59,105,102,32,36,97,60,51,123,103,111,32,113,59,125,101,108,115,101,123,125,125]).1=[112,114,111,99,32,112,32,123,32,36,97,32,61,32,40,120,46,121,32,43,32,49,41,32,42,32,50,59,32,105,102,32,36,97,32,60,32,51,32,123,32,103,111,32,113,59,32,125,32,101,108,115,101,32,123,32,125,32,125]:=bG
def callL:List aV:=[[97],[98],[120],[98,111,120],[113],[119,50],[99,104,101,99,107,115],[108,111,110,103,101,115,116,110,97,109,101,49,50,51,52,53]]
def ownL:List aV:=[[97],[105],[114,101,97,100],[108,111,110,103,101,115,116,108,111,99,97,108,49,50,51,52]]
def callM(L:List Int)(i:Nat):aV:=callL.getD (dM L i 8).toNat []
def ownM(L:List Int)(i:Nat):aV:=ownL.getD (dM L i 4).toNat []
def placeM(L:List Int)(i:Nat):Nd×Nat:=if 0<dM L i 3 then(.mk 34 (callM L (i+1)) 0 [],i+2)else(.mk 35 (callM L (i+1)++46::callM L (i+2)) 0 [],i+3)
def numsM:List Int:=[0,1,2,7,10,999]
def valueM(L:List Int):Nat->Nat->Nd×Nat
 |d,i=>
  let k:=if d=0\/L.length<i+1 then(dM L i 12).tmod 6 else dM L i 12
  if k=0\/k=1 then(.mk 32 [] (numsM.getD (dM L (i+1) 6).toNat 0) [],i+2)
  else if k=2 then(.mk 33 (ownM L (i+1)) 0 [],i+2)
  else if k=3\/k=4 then placeM L (i+1)
  else if k=5 then(.mk 36 [] 0 [],i+1)
  else match d with
   |0=>default
   |e+1=>(.mk (26+k-6) [] 0 [(valueM L e (i+1)).1,(valueM L e (valueM L e (i+1)).2).1],(valueM L e (valueM L e (i+1)).2).2)
def somesM(L:List Int)(st:Nat->Nd×Nat):Nat->List Nd->Nat->List Nd×Nat
 |0,ks,i=>(ks,i)
 |m+1,ks,i=>if L.length<=i then(ks,i)else somesM L st m (ks++[(st i).1]) (st i).2
def someM(L:List Int)(st:Nat->Nd×Nat)(i:Nat):Nd×Nat:=
 let r:=somesM L st (dM L i 4).toNat [] (i+1)
 (.mk 8 [] 0 r.1,r.2)
def oneB(L:List Int)(d:Nat)(bl:Nat->Nd×Nat)(i0:Nat):Nd×Nat:=
 let k0:=9+dM L i0 17
 let k:=if d=0/\(k0=11\/k0=12)then 24 else k0
 let i:=i0+1
 if k=9 then(.mk k (ownM L i) 0 [(valueM L 2 (i+1)).1],(valueM L 2 (i+1)).2)
 else if k=10 then(.mk k [] 0 [(placeM L i).1,(valueM L 2 (placeM L i).2).1],(valueM L 2 (placeM L i).2).2)
 else if k=11\/k=12 then
  let e:=valueM L 1 i
  let b:=bl e.2
  if k=11 then(if dM L b.2 2=0 then(.mk k [] 0 [e.1,b.1,(bl (b.2+1)).1],(bl (b.2+1)).2)else(.mk k [] 0 [e.1,b.1],b.2+1))
  else(.mk k [] 0 [e.1,b.1],b.2)
 else if k=13\/k=14\/k=17\/k=18 then(.mk k (callM L i) 0 [],i+1)
 else if k=15\/k=22 then(.mk k (callM L i) 0 [(valueM L 1 (i+1)).1],(valueM L 1 (i+1)).2)
 else if k=16\/k=23 then(.mk k (callM L i) 0 [.mk 33 (ownM L (i+1)) 0 []],i+2)
 else if k=19 then(.mk k (ownM L i) (2+dM L (i+1) 5) [],i+2)
 else if k=20 then(.mk k (ownM L i) 0 [],i+1)
 else if k=21 then(.mk k [] (1+dM L i 9) [],i+1)
 else if k=25 then(.mk k [] (1+dM L i 99) [],i+1)
 else(.mk k [] 0 [(valueM L 2 i).1],(valueM L 2 i).2)
def oneM(L:List Int):Nat->Nat->Nd×Nat
 |0,i=>oneB L 0 (λ_=>default) i
 |d+1,i=>oneB L (d+1) (someM L (oneM L d)) i
def treeKinds:List Int:=[5,6,5,6,5,0,1,2,3,4]
def bodyM(L:List Int):Nat->List Nd->Nat->List Nd
 |0,ks,_=>ks
 |m+1,ks,i=>if L.length<=i then ks else bodyM L m (ks++[(oneM L 2 i).1]) (oneM L 2 i).2
def itemsM(L:List Int):Nat->List Nd
 |0=>[]
 |j+1=>itemsM L j++[.mk 7 (callM L (3+2*j)) (dM L (4+2*j) 1999-999) []]
def treeB(L:List Int):Nd:=
 let k:=treeKinds.getD (dM L 0 10).toNat 0
 let t:=callM L 1
 if k=0 then .mk k t (dM L 2 1999-999) []
 else if k=2 then .mk k t (dM L 2 4) []
 else if k=1 then .mk k t 0 (itemsM L (dM L 2 4).toNat)
 else if k=5\/k=6 then .mk k t 0 [.mk 8 [] 0 (bodyM L L.length [] 2)]
 else .mk k t 0 []
def treeS(l:List Int):Nd:=treeB (l.take 48)
def tokE(t:Tk):Int:=t.at_+t.text.length
def sepsL:List aV:=[[32],[10],[32,32,10,32]]
def signB(c:UInt8):Bool:=decide (c∈signs)
def firstIs(p:UInt8->Bool)(w:aV):Bool:=match w with|[]=>false|c::_=>p c
def spacedTo(ts:List Tk)(l:List Int):Nat->aV
 |0=>[]
 |i+1=>
  let out:=spacedTo ts l i
  let w:=(ts.getD i default).text
  let k:=dM l i 6
  let need:=match out.getLast? with
   |none=>false
   |some c=>(firstIs letterB w||firstIs digitB w)&&decide (c≠32)&&decide (c≠10)&& !signB c
  (if decide (k<3)||need||(decide (0<i)&&(decide (w=[61])||decide (w=[61,61])))then out++sepsL.getD (k.tmod 3).toNat []else out)++w
def spacedS(s:aV)(l:List Int):aV:=spacedTo (scanS s).1 l (scanS s).1.length
def chgEmpty:List aV:=[[118,97,114],[41],[65],[49,44,48]]
def chgWords:List aV:=[[118,97,114],[120],[40],[41],[123],[125],[48,48,55],[60],[60,61],[105,102],[61],[61,61],[48],[45],[44],[49,50,51,52],[36,120],[107,105,110,100],[101,108,115,101],[59],[46],[49,48,48],[36],[108,111,110,103,101,114,110,97,109,101,49,50,51,52,53,54,55],[116,101,115,116],[52]]
def changedS(s:aV)(a how b:Int):aV:=match(scanS s).1 with
 |[]=>s++chgEmpty.getD (bT b 4).toNat []
 |t::ts=>
  let k:=(t::ts).getD (bT a (ts.length+1:Nat)).toNat default
  let word:=chgWords.getD (bT b 26).toNat []
  let p:=k.at_.toNat
  let q:=(tokE k).toNat
  let c:=bT how 6
  if c=0 then s.take p++s.drop q
  else if c=1 then s.take q++32::s.drop p
  else if c=2 then s.take p++32::(word++32::s.drop q)
  else if c=3 then s.take p
  else if c=4 then s.take p++word++32::s.drop p
  else s.set (bT a s.length).toNat (B7 (b.emod 256).toNat)
def Stk{α:Type}(x:PS->α×PS):Prop:=∀p,(x p).2.e=0->p.e=0
theorem fail_e{p:PS}{e:Int}(a:e≠0):(p.fail e).e≠0:=by
 unfold PS.fail;split
 .exact a
 .assumption
theorem need_e{p:PS}{s:aV}(h:(p.need s).e=0):p.is s=true/\p.e=0:=by
 unfold PS.need at h;split at h
 .rename_i q;exact⟨q,h⟩
 .exact absurd h (fail_e bG)
theorem nameP_stk:Stk nameP:=λp h=>by
 unfold nameP at h;split at h
 .exact h
 .exact absurd h (fail_e bG)
theorem localP_stk:Stk localP:=λp h=>by
 unfold localP at h;split at h
 .exact h
 .exact absurd h (fail_e bG)
theorem numeralP_stk(k:Int):Stk (numeralP k):=λp h=>by
 unfold numeralP at h;split at h
 .exact absurd h (fail_e bG)
 .split at h
  .split at h
   .exact absurd h (fail_e bG)
   .exact h
  .exact absurd h (fail_e bG)
theorem numberP_stk:Stk numberP:=λp h=>by
 unfold numberP at h;split at h
 .exact numeralP_stk 0 p.skip h
 .exact numeralP_stk 0 _ h
theorem placeP_stk:Stk placeP:=λp h=>by
 unfold placeP at h;split at h
 .exact nameP_stk p (nameP_stk (nameP p).2.skip h)
 .exact nameP_stk p h
theorem opP_stk(a:Int):Stk (opP a):=λp h=>by
 unfold opP at h;simp only at h;split at h<;>exact h
theorem chainF_stk{a:Int}{x:PS->Nd×PS}(b:Stk x):∀(f:Nat) (n:Nd) (p:PS),(chainF a x f n p).2.e=0->p.e=0
 |0,_,_,h=>h
 |f+1,n,p,h=>by
  unfold chainF at h;split at h
  .exact h
  .rename_i q;simpa using q
theorem chainP_stk{b:Int}{x:PS->Nd×PS}(a:Stk x):Stk (chainP b x):=λp h=>a p (chainF_stk a _ _ _ h)
theorem factP_stk{a:PS->Nd×PS}(b:Stk a):Stk (factP a):=λp h=>by
 unfold factP at h;split at h
 .exact b p.skip (need_e h).2
 .split at h
  .exact h
  .split at h
   .split at h
    .exact numeralP_stk 32 p h
    .split at h
     .exact localP_stk p h
     .exact placeP_stk p h
   .exact placeP_stk p h
theorem sumP_stk{a:PS->Nd×PS}(b:Stk a):Stk (sumP a):=chainP_stk (chainP_stk (factP_stk b))
theorem exprB_stk{b:PS->Nd×PS}(a:Stk b):Stk (exprB b):=λp h=>by
 unfold exprB at h;simp only at h;split at h
 .exact sumP_stk a p (opP_stk 1 _ (sumP_stk a _ h))
 .exact sumP_stk a p (opP_stk 1 _ h)
theorem exprP_stk(r:Bool):∀f,Stk (exprP r f)
 |0=>λp h=>h
 |f+1=>λp h=>by
  unfold exprP at h;split at h
  .exact h
  .exact exprB_stk (exprP_stk r f) p h
theorem stmtsF_stk{c:PS->Nd×PS}(a:Stk c):∀(f:Nat) (b:List Nd) (p:PS),(stmtsF c f b p).2.e=0->p.e=0
 |0,_,_,h=>h
 |f+1,b,p,h=>by
  unfold stmtsF at h;split at h
  .exact h
  .exact a p (stmtsF_stk a f _ _ h)
theorem blockB_stk{a:PS->Nd×PS}(b:Stk a):Stk (blockB a):=λp h=>by
 unfold blockB at h;exact(need_e (stmtsF_stk b _ _ _ (need_e h).2)).2
theorem cmdP_stk{c:PS->Nd×PS}(d:Stk c)(k:Int):Stk (cmdP c k):=λp h=>by
 have b:(if k=19\/k=20 then localP p else if k=21\/k=25\/k=24 then([],p)else nameP p).2.e=0->p.e=0:=λh=>by
  split at h
  .exact localP_stk p h
  .split at h
   .exact h
   .exact nameP_stk p h
 unfold cmdP at h;generalize(if k=19\/k=20 then localP p else if k=21\/k=25\/k=24 then([],p)else nameP p)=a at h b;simp only at h;split at h
 .exact b (d _ h)
 .split at h
  .exact b (localP_stk _ h)
  .split at h
   .exact b (numeralP_stk _ _ h)
   .exact b h
theorem stmtB_stk{c b:PS->Nd×PS}(a:Stk c)(d:Stk b):Stk (stmtB c b):=λp h=>by
 unfold stmtB at h;simp only at h;split at h
 .split at h
  .exact a p.skip (d _ (d (b (c p.skip).2).2.skip h))
  .exact a p.skip (d _ h)
 .split at h
  .exact cmdP_stk a _ p.skip (need_e h).2
  .split at h
   .exact localP_stk p (need_e (a _ (need_e h).2)).2
   .exact placeP_stk p (need_e (a _ (need_e h).2)).2
theorem exprO_stk(r:Bool):Stk λq=>exprP r (q.l.length+1) q:=λp h=>exprP_stk r _ p h
theorem stmtP_stk(r:Bool):∀f,Stk (stmtP r f)
 |0=>λp h=>h
 |f+1=>λp h=>stmtB_stk (exprO_stk r) (blockB_stk (stmtP_stk r f)) p h
end Go.Eng
