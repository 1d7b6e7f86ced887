/- Part 4 of the proof. No condition. -/
import Derived.Test.YtjdlbidjlfllcaaGreatDoorMC
import Derived.Test.YtjdlbidjlfllcaaGreatDoorProg
import Derived.KernelRfl
import Derived.OpenShut
import Derived.RangeFuncRecord
import Derived.RangeFuncIn
import Derived.RangeFuncSeq
import Derived.Shelf.SortM.Plain
import Derived.Shelf.GgSortFunc.RowK
import Derived.RangeFuncNested
import Derived.OwnWalkIn
import Derived.Lib.ConvBytes
import Derived.Laws.IdiomStrings
import Derived.Maps.RangeRun
open Go.Proofs.Tryz
set_option linter.unusedVariables false
set_option linter.unusedSimpArgs false
set_option maxRecDepth 20000
set_option maxHeartbeats 4000000
namespace Go.Eng
def FF:List (Nat×fE):=
 [(2,⟨.int .i64,1,8,[.int .i64 0],[]⟩),(3,⟨.int .i64,1,8,[.int .i64 0],[]⟩),(4,⟨.bool,1,1,[.bool false],[]⟩),(5,⟨.int .u8,1,1,[.int .u8 0],[]⟩),(6,⟨.int .u8,1,1,[.int .u8 0],[]⟩),(9,⟨.str,1,16,[.string .empty],[]⟩),(10,⟨.str,1,16,[.string .empty],[]⟩),(11,⟨.str,1,16,[.string .empty],[]⟩),(12,⟨.int .u64,1,8,[.int .u64 0],[]⟩),(21,⟨.int .i32,1,4,[.int .i32 0],[]⟩),(22,⟨.slice 3,1,24,[.slice none 0 0],[]⟩),(23,⟨.slice 28,1,24,[.slice none 0 0],[]⟩),(24,⟨.other,1,8,[.nilFunc],[]⟩),(25,⟨.int .i64,1,8,[.int .i64 0],[]⟩),(27,⟨.other,1,8,[.nilFunc],[]⟩),(28,⟨.slice 38,1,24,[.slice none 0 0],[]⟩),(29,⟨.other,1,8,[.nilFunc],[]⟩),(30,⟨.other,1,8,[.nilFunc],[]⟩),(31,⟨.other,1,8,[.nilFunc],[]⟩),(32,⟨.slice 9,1,24,[.slice none 0 0],[]⟩),(33,⟨.other,1,8,[.nilFunc],[]⟩),(34,⟨.other,1,8,[.nilFunc],[]⟩),(35,⟨.other,1,8,[.nilFunc],[]⟩),(36,⟨.other,1,8,[.nilFunc],[]⟩),(37,⟨.struct [(0,9),(1,9)],2,32,[.string .empty,.string .empty],[.str,.str]⟩),(38,⟨.struct [(0,9),(1,9)],2,32,[.string .empty,.string .empty],[.str,.str]⟩),(40,⟨.other,1,8,[.nilFunc],[]⟩),(42,⟨.other,1,8,[.nilFunc],[]⟩),(43,⟨.other,1,8,[.nilFunc],[]⟩),(45,⟨.other,1,8,[.nilFunc],[]⟩),(46,⟨.other,1,8,[.nilFunc],[]⟩),(47,⟨.other,1,8,[.nilFunc],[]⟩),(48,⟨.other,1,8,[.nilFunc],[]⟩),(49,⟨.other,1,8,[.nilFunc],[]⟩),(50,⟨.other,1,8,[.nilFunc],[]⟩),(51,⟨.slice 62,1,24,[.slice none 0 0],[]⟩),(52,⟨.map 9 3,1,8,[.map none],[]⟩),(53,⟨.struct [(0,51),(1,52)],2,32,[.slice none 0 0,.map none],[]⟩),(54,⟨.struct [(0,51),(1,52)],2,32,[.slice none 0 0,.map none],[]⟩),(56,⟨.other,1,8,[.nilFunc],[]⟩),(57,⟨.other,1,8,[.nilFunc],[]⟩),(58,⟨.other,1,8,[.nilFunc],[]⟩),(59,⟨.other,1,8,[.nilFunc],[]⟩),(60,⟨.other,1,8,[.nilFunc],[]⟩),(61,⟨.struct [(0,3),(1,9),(2,3),(3,51)],4,56,[.int .i64 0,.string .empty,.int .i64 0,.slice none 0 0],[]⟩),(62,⟨.struct [(0,3),(1,9),(2,3),(3,51)],4,56,[.int .i64 0,.string .empty,.int .i64 0,.slice none 0 0],[]⟩),(63,⟨.other,1,8,[.nilFunc],[]⟩),(64,⟨.other,1,8,[.nilFunc],[]⟩),(65,⟨.other,1,8,[.nilFunc],[]⟩),(66,⟨.other,1,8,[.nilFunc],[]⟩),(67,⟨.other,1,8,[.nilFunc],[]⟩),(68,⟨.other,1,8,[.nilFunc],[]⟩),(69,⟨.other,1,8,[.nilFunc],[]⟩),(70,⟨.other,1,8,[.nilFunc],[]⟩),(72,⟨.other,1,8,[.nilFunc],[]⟩),(73,⟨.map 9 4,1,8,[.map none],[]⟩),(74,⟨.other,1,8,[.nilFunc],[]⟩),(75,⟨.other,1,8,[.nilFunc],[]⟩),(77,⟨.struct [(0,3),(1,9),(2,9)],3,40,[.int .i64 0,.string .empty,.string .empty],[.int .i64,.str,.str]⟩),(78,⟨.struct [(0,3),(1,9),(2,9)],3,40,[.int .i64 0,.string .empty,.string .empty],[.int .i64,.str,.str]⟩),(79,⟨.other,1,8,[.nilFunc],[]⟩),(80,⟨.other,1,8,[.nilFunc],[]⟩),(81,⟨.other,1,8,[.nilFunc],[]⟩),(82,⟨.other,1,8,[.nilFunc],[]⟩),(84,⟨.slice 87,1,24,[.slice none 0 0],[]⟩),(85,⟨.other,1,8,[.nilFunc],[]⟩),(87,⟨.struct [(0,3),(1,3),(2,9),(3,9)],4,48,[.int .i64 0,.int .i64 0,.string .empty,.string .empty],[.int .i64,.int .i64,.str,.str]⟩),(89,⟨.map 3 4,1,8,[.map none],[]⟩),(90,⟨.other,1,8,[.nilFunc],[]⟩),(91,⟨.other,1,8,[.nilFunc],[]⟩),(92,⟨.other,1,8,[.nilFunc],[]⟩),(93,⟨.other,1,8,[.nilFunc],[]⟩),(95,⟨.other,1,8,[.nilFunc],[]⟩),(96,⟨.other,1,8,[.nilFunc],[]⟩),(97,⟨.other,1,8,[.nilFunc],[]⟩),(100,⟨.other,1,8,[.nilFunc],[]⟩),(103,⟨.other,1,8,[.nilFunc],[]⟩),(104,⟨.other,1,8,[.nilFunc],[]⟩),(106,⟨.other,1,8,[.nilFunc],[]⟩),(107,⟨.int .u64,1,8,[.int .u64 0],[]⟩),(110,⟨.slice 118,1,24,[.slice none 0 0],[]⟩),(113,⟨.ptr 115,1,8,[.pointer none],[]⟩),(114,⟨.struct [(0,110),(1,25)],2,32,[.slice none 0 0,.int .i64 0],[]⟩),(115,⟨.struct [(0,110),(1,25)],2,32,[.slice none 0 0,.int .i64 0],[]⟩),(116,⟨.other,1,8,[.nilFunc],[]⟩),(117,⟨.struct [(0,9),(1,3)],2,24,[.string .empty,.int .i64 0],[.str,.int .i64]⟩),(118,⟨.struct [(0,9),(1,3)],2,24,[.string .empty,.int .i64 0],[.str,.int .i64]⟩),(119,⟨.other,1,8,[.nilFunc],[]⟩),(120,⟨.other,1,8,[.nilFunc],[]⟩),(121,⟨.map 3 3,1,8,[.map none],[]⟩),(122,⟨.other,1,8,[.nilFunc],[]⟩),(126,⟨.slice 133,1,24,[.slice none 0 0],[]⟩),(128,⟨.other,1,8,[.nilFunc],[]⟩),(129,⟨.ptr 131,1,8,[.pointer none],[]⟩),(131,⟨.struct [(0,9),(1,126),(2,3),(3,4),(4,4)],5,56,[.string .empty,.slice none 0 0,.int .i64 0,.bool false,.bool false],[]⟩),(132,⟨.struct [(0,3),(1,3)],2,16,[.int .i64 0,.int .i64 0],[.int .i64,.int .i64]⟩),(133,⟨.struct [(0,3),(1,3)],2,16,[.int .i64 0,.int .i64 0],[.int .i64,.int .i64]⟩),(138,⟨.other,1,8,[.nilFunc],[]⟩),(139,⟨.other,1,8,[.nilFunc],[]⟩),(140,⟨.arr 3 9,3,48,[.string .empty,.string .empty,.string .empty],[]⟩),(141,⟨.slice 140,1,24,[.slice none 0 0],[]⟩),(142,⟨.slice 5,1,24,[.slice none 0 0],[]⟩),(144,⟨.other,1,8,[.nilFunc],[]⟩),(145,⟨.ptr 147,1,8,[.pointer none],[]⟩),(147,⟨.struct [(0,22),(1,3)],2,32,[.slice none 0 0,.int .i64 0],[]⟩),(151,⟨.other,1,8,[.nilFunc],[]⟩),(152,⟨.map 25 3,1,8,[.map none],[]⟩),(153,⟨.other,1,8,[.nilFunc],[]⟩),(155,⟨.int .i64,1,8,[.int .i64 0],[]⟩),(163,⟨.int .u32,1,4,[.int .u32 0],[]⟩),(165,⟨.int .u64,1,8,[.int .u64 0],[]⟩),(167,⟨.other,1,8,[.nilFunc],[]⟩),(170,⟨.arr 26 9,26,416,(List.replicate 26 (.string .empty)),[]⟩),(171,⟨.other,1,8,[.nilFunc],[]⟩),(174,⟨.other,1,8,[.nilFunc],[]⟩),(178,⟨.int .u64,1,8,[.int .u64 0],[]⟩),(182,⟨.ptr 3,1,8,[.pointer none],[]⟩),(185,⟨.other,1,8,[.nilFunc],[]⟩),(190,⟨.arr 2 3,2,16,[.int .i64 0,.int .i64 0],[]⟩),(191,⟨.arr 37 190,74,592,(List.replicate 74 (.int .i64 0)),[]⟩),(192,⟨.ptr 178,1,8,[.pointer none],[]⟩),(196,⟨.ptr 62,1,8,[.pointer none],[]⟩),(199,⟨.other,1,8,[.nilFunc],[]⟩),(204,⟨.int .i64,1,8,[.int .i64 0],[]⟩),(207,⟨.ptr 225,1,8,[.pointer none],[]⟩),(210,⟨.slice 91,1,24,[.slice none 0 0],[]⟩),(213,⟨.other,1,8,[.nilFunc],[]⟩),(215,⟨.other,1,8,[.nilFunc],[]⟩),(216,⟨.slice 218,1,24,[.slice none 0 0],[]⟩),(218,⟨.struct [(0,9),(1,3)],2,24,[.string .empty,.int .i64 0],[.str,.int .i64]⟩),(219,⟨.arr 6 218,12,144,[.string .empty,.int .i64 0,.string .empty,.int .i64 0,.string .empty,.int .i64 0,.string .empty,.int .i64 0,.string .empty,.int .i64 0,.string .empty,.int .i64 0],[.str,.int .i64,.str,.int .i64,.str,.int .i64,.str,.int .i64,.str,.int .i64,.str,.int .i64]⟩),(220,⟨.other,1,8,[.nilFunc],[]⟩),(226,⟨.other,1,8,[.nilFunc],[]⟩),(227,⟨.arr 24 5,24,24,(List.replicate 24 (.int .u8 0)),[]⟩),(232,⟨.ptr 5,1,8,[.pointer none],[]⟩),(233,⟨.ptr 235,1,8,[.pointer none],[]⟩),(235,⟨.struct [(0,9)],1,16,[.string .empty],[.str]⟩),(237,⟨.arr 20 165,20,160,(List.replicate 20 (.int .u64 0)),[]⟩),(238,⟨.arr 65 5,65,65,(List.replicate 65 (.int .u8 0)),[]⟩),(239,⟨.arr 32 5,32,32,(List.replicate 32 (.int .u8 0)),[]⟩),(240,⟨.arr 64 5,64,64,(List.replicate 64 (.int .u8 0)),[]⟩)]
def T:TypeId->fE:=oM FF
theorem hT:fP prog T:=QQ (by kernel_rfl)
theorem hW:BS T:=TY (by kernel_rfl)
@[simp] theorem t2:T 2=⟨.int .i64,1,8,[.int .i64 0],[]⟩:=by kernel_rfl
@[simp] theorem t3:T 3=⟨.int .i64,1,8,[.int .i64 0],[]⟩:=by kernel_rfl
@[simp] theorem t4:T 4=⟨.bool,1,1,[.bool false],[]⟩:=by kernel_rfl
@[simp] theorem t5:T 5=⟨.int .u8,1,1,[.int .u8 0],[]⟩:=by kernel_rfl
@[simp] theorem t6:T 6=⟨.int .u8,1,1,[.int .u8 0],[]⟩:=by kernel_rfl
@[simp] theorem t9:T 9=⟨.str,1,16,[.string .empty],[]⟩:=by kernel_rfl
@[simp] theorem t10:T 10=⟨.str,1,16,[.string .empty],[]⟩:=by kernel_rfl
@[simp] theorem t11:T 11=⟨.str,1,16,[.string .empty],[]⟩:=by kernel_rfl
@[simp] theorem t12:T 12=⟨.int .u64,1,8,[.int .u64 0],[]⟩:=by kernel_rfl
@[simp] theorem t21:T 21=⟨.int .i32,1,4,[.int .i32 0],[]⟩:=by kernel_rfl
@[simp] theorem t22:T 22=⟨.slice 3,1,24,[.slice none 0 0],[]⟩:=by kernel_rfl
@[simp] theorem t23:T 23=⟨.slice 28,1,24,[.slice none 0 0],[]⟩:=by kernel_rfl
@[simp] theorem t24:T 24=⟨.other,1,8,[.nilFunc],[]⟩:=by kernel_rfl
@[simp] theorem t25:T 25=⟨.int .i64,1,8,[.int .i64 0],[]⟩:=by kernel_rfl
@[simp] theorem t27:T 27=⟨.other,1,8,[.nilFunc],[]⟩:=by kernel_rfl
@[simp] theorem t28:T 28=⟨.slice 38,1,24,[.slice none 0 0],[]⟩:=by kernel_rfl
@[simp] theorem t29:T 29=⟨.other,1,8,[.nilFunc],[]⟩:=by kernel_rfl
@[simp] theorem t30:T 30=⟨.other,1,8,[.nilFunc],[]⟩:=by kernel_rfl
@[simp] theorem t31:T 31=⟨.other,1,8,[.nilFunc],[]⟩:=by kernel_rfl
@[simp] theorem t32:T 32=⟨.slice 9,1,24,[.slice none 0 0],[]⟩:=by kernel_rfl
@[simp] theorem t33:T 33=⟨.other,1,8,[.nilFunc],[]⟩:=by kernel_rfl
@[simp] theorem t34:T 34=⟨.other,1,8,[.nilFunc],[]⟩:=by kernel_rfl
@[simp] theorem t35:T 35=⟨.other,1,8,[.nilFunc],[]⟩:=by kernel_rfl
@[simp] theorem t36:T 36=⟨.other,1,8,[.nilFunc],[]⟩:=by kernel_rfl
@[simp] theorem t37:T 37=⟨.struct [(0,9),(1,9)],2,32,[.string .empty,.string .empty],[.str,.str]⟩:=by kernel_rfl
@[simp] theorem t38:T 38=⟨.struct [(0,9),(1,9)],2,32,[.string .empty,.string .empty],[.str,.str]⟩:=by kernel_rfl
@[simp] theorem t40:T 40=⟨.other,1,8,[.nilFunc],[]⟩:=by kernel_rfl
@[simp] theorem t42:T 42=⟨.other,1,8,[.nilFunc],[]⟩:=by kernel_rfl
@[simp] theorem t43:T 43=⟨.other,1,8,[.nilFunc],[]⟩:=by kernel_rfl
@[simp] theorem t45:T 45=⟨.other,1,8,[.nilFunc],[]⟩:=by kernel_rfl
@[simp] theorem t46:T 46=⟨.other,1,8,[.nilFunc],[]⟩:=by kernel_rfl
@[simp] theorem t47:T 47=⟨.other,1,8,[.nilFunc],[]⟩:=by kernel_rfl
@[simp] theorem t48:T 48=⟨.other,1,8,[.nilFunc],[]⟩:=by kernel_rfl
@[simp] theorem t49:T 49=⟨.other,1,8,[.nilFunc],[]⟩:=by kernel_rfl
@[simp] theorem t50:T 50=⟨.other,1,8,[.nilFunc],[]⟩:=by kernel_rfl
@[simp] theorem t51:T 51=⟨.slice 62,1,24,[.slice none 0 0],[]⟩:=by kernel_rfl
@[simp] theorem t52:T 52=⟨.map 9 3,1,8,[.map none],[]⟩:=by kernel_rfl
@[simp] theorem t53:T 53=⟨.struct [(0,51),(1,52)],2,32,[.slice none 0 0,.map none],[]⟩:=by kernel_rfl
@[simp] theorem t54:T 54=⟨.struct [(0,51),(1,52)],2,32,[.slice none 0 0,.map none],[]⟩:=by kernel_rfl
@[simp] theorem t56:T 56=⟨.other,1,8,[.nilFunc],[]⟩:=by kernel_rfl
@[simp] theorem t57:T 57=⟨.other,1,8,[.nilFunc],[]⟩:=by kernel_rfl
@[simp] theorem t58:T 58=⟨.other,1,8,[.nilFunc],[]⟩:=by kernel_rfl
@[simp] theorem t59:T 59=⟨.other,1,8,[.nilFunc],[]⟩:=by kernel_rfl
@[simp] theorem t60:T 60=⟨.other,1,8,[.nilFunc],[]⟩:=by kernel_rfl
@[simp] theorem t61:T 61=⟨.struct [(0,3),(1,9),(2,3),(3,51)],4,56,[.int .i64 0,.string .empty,.int .i64 0,.slice none 0 0],[]⟩:=by kernel_rfl
@[simp] theorem t62:T 62=⟨.struct [(0,3),(1,9),(2,3),(3,51)],4,56,[.int .i64 0,.string .empty,.int .i64 0,.slice none 0 0],[]⟩:=by kernel_rfl
@[simp] theorem t63:T 63=⟨.other,1,8,[.nilFunc],[]⟩:=by kernel_rfl
@[simp] theorem t64:T 64=⟨.other,1,8,[.nilFunc],[]⟩:=by kernel_rfl
@[simp] theorem t65:T 65=⟨.other,1,8,[.nilFunc],[]⟩:=by kernel_rfl
@[simp] theorem t66:T 66=⟨.other,1,8,[.nilFunc],[]⟩:=by kernel_rfl
@[simp] theorem t67:T 67=⟨.other,1,8,[.nilFunc],[]⟩:=by kernel_rfl
@[simp] theorem t68:T 68=⟨.other,1,8,[.nilFunc],[]⟩:=by kernel_rfl
@[simp] theorem t69:T 69=⟨.other,1,8,[.nilFunc],[]⟩:=by kernel_rfl
@[simp] theorem t70:T 70=⟨.other,1,8,[.nilFunc],[]⟩:=by kernel_rfl
@[simp] theorem t72:T 72=⟨.other,1,8,[.nilFunc],[]⟩:=by kernel_rfl
@[simp] theorem t73:T 73=⟨.map 9 4,1,8,[.map none],[]⟩:=by kernel_rfl
@[simp] theorem t74:T 74=⟨.other,1,8,[.nilFunc],[]⟩:=by kernel_rfl
@[simp] theorem t75:T 75=⟨.other,1,8,[.nilFunc],[]⟩:=by kernel_rfl
@[simp] theorem t77:T 77=⟨.struct [(0,3),(1,9),(2,9)],3,40,[.int .i64 0,.string .empty,.string .empty],[.int .i64,.str,.str]⟩:=by kernel_rfl
@[simp] theorem t78:T 78=⟨.struct [(0,3),(1,9),(2,9)],3,40,[.int .i64 0,.string .empty,.string .empty],[.int .i64,.str,.str]⟩:=by kernel_rfl
@[simp] theorem t79:T 79=⟨.other,1,8,[.nilFunc],[]⟩:=by kernel_rfl
@[simp] theorem t80:T 80=⟨.other,1,8,[.nilFunc],[]⟩:=by kernel_rfl
@[simp] theorem t81:T 81=⟨.other,1,8,[.nilFunc],[]⟩:=by kernel_rfl
@[simp] theorem t82:T 82=⟨.other,1,8,[.nilFunc],[]⟩:=by kernel_rfl
@[simp] theorem t84:T 84=⟨.slice 87,1,24,[.slice none 0 0],[]⟩:=by kernel_rfl
@[simp] theorem t85:T 85=⟨.other,1,8,[.nilFunc],[]⟩:=by kernel_rfl
@[simp] theorem t87:T 87=⟨.struct [(0,3),(1,3),(2,9),(3,9)],4,48,[.int .i64 0,.int .i64 0,.string .empty,.string .empty],[.int .i64,.int .i64,.str,.str]⟩:=by kernel_rfl
@[simp] theorem t89:T 89=⟨.map 3 4,1,8,[.map none],[]⟩:=by kernel_rfl
@[simp] theorem t90:T 90=⟨.other,1,8,[.nilFunc],[]⟩:=by kernel_rfl
@[simp] theorem t91:T 91=⟨.other,1,8,[.nilFunc],[]⟩:=by kernel_rfl
@[simp] theorem t92:T 92=⟨.other,1,8,[.nilFunc],[]⟩:=by kernel_rfl
@[simp] theorem t93:T 93=⟨.other,1,8,[.nilFunc],[]⟩:=by kernel_rfl
@[simp] theorem t95:T 95=⟨.other,1,8,[.nilFunc],[]⟩:=by kernel_rfl
@[simp] theorem t96:T 96=⟨.other,1,8,[.nilFunc],[]⟩:=by kernel_rfl
@[simp] theorem t97:T 97=⟨.other,1,8,[.nilFunc],[]⟩:=by kernel_rfl
@[simp] theorem aBN:T 100=⟨.other,1,8,[.nilFunc],[]⟩:=by kernel_rfl
@[simp] theorem aBO:T 103=⟨.other,1,8,[.nilFunc],[]⟩:=by kernel_rfl
@[simp] theorem aBP:T 104=⟨.other,1,8,[.nilFunc],[]⟩:=by kernel_rfl
@[simp] theorem aBQ:T 106=⟨.other,1,8,[.nilFunc],[]⟩:=by kernel_rfl
@[simp] theorem aBR:T 107=⟨.int .u64,1,8,[.int .u64 0],[]⟩:=by kernel_rfl
@[simp] theorem aBS:T 110=⟨.slice 118,1,24,[.slice none 0 0],[]⟩:=by kernel_rfl
@[simp] theorem aBT:T 113=⟨.ptr 115,1,8,[.pointer none],[]⟩:=by kernel_rfl
@[simp] theorem aBU:T 114=⟨.struct [(0,110),(1,25)],2,32,[.slice none 0 0,.int .i64 0],[]⟩:=by kernel_rfl
@[simp] theorem aBV:T 115=⟨.struct [(0,110),(1,25)],2,32,[.slice none 0 0,.int .i64 0],[]⟩:=by kernel_rfl
@[simp] theorem aBW:T 116=⟨.other,1,8,[.nilFunc],[]⟩:=by kernel_rfl
@[simp] theorem aBX:T 117=⟨.struct [(0,9),(1,3)],2,24,[.string .empty,.int .i64 0],[.str,.int .i64]⟩:=by kernel_rfl
@[simp] theorem aBY:T 118=⟨.struct [(0,9),(1,3)],2,24,[.string .empty,.int .i64 0],[.str,.int .i64]⟩:=by kernel_rfl
@[simp] theorem aBZ:T 119=⟨.other,1,8,[.nilFunc],[]⟩:=by kernel_rfl
@[simp] theorem aB0:T 120=⟨.other,1,8,[.nilFunc],[]⟩:=by kernel_rfl
@[simp] theorem aB1:T 121=⟨.map 3 3,1,8,[.map none],[]⟩:=by kernel_rfl
@[simp] theorem aB2:T 122=⟨.other,1,8,[.nilFunc],[]⟩:=by kernel_rfl
@[simp] theorem aB3:T 126=⟨.slice 133,1,24,[.slice none 0 0],[]⟩:=by kernel_rfl
@[simp] theorem aB4:T 128=⟨.other,1,8,[.nilFunc],[]⟩:=by kernel_rfl
@[simp] theorem aB5:T 129=⟨.ptr 131,1,8,[.pointer none],[]⟩:=by kernel_rfl
@[simp] theorem aB6:T 131=⟨.struct [(0,9),(1,126),(2,3),(3,4),(4,4)],5,56,[.string .empty,.slice none 0 0,.int .i64 0,.bool false,.bool false],[]⟩:=by kernel_rfl
@[simp] theorem aB7:T 132=⟨.struct [(0,3),(1,3)],2,16,[.int .i64 0,.int .i64 0],[.int .i64,.int .i64]⟩:=by kernel_rfl
@[simp] theorem aB8:T 133=⟨.struct [(0,3),(1,3)],2,16,[.int .i64 0,.int .i64 0],[.int .i64,.int .i64]⟩:=by kernel_rfl
@[simp] theorem aB9:T 138=⟨.other,1,8,[.nilFunc],[]⟩:=by kernel_rfl
@[simp] theorem aCa:T 139=⟨.other,1,8,[.nilFunc],[]⟩:=by kernel_rfl
@[simp] theorem aCb:T 140=⟨.arr 3 9,3,48,[.string .empty,.string .empty,.string .empty],[]⟩:=by kernel_rfl
@[simp] theorem aCc:T 141=⟨.slice 140,1,24,[.slice none 0 0],[]⟩:=by kernel_rfl
@[simp] theorem aCd:T 142=⟨.slice 5,1,24,[.slice none 0 0],[]⟩:=by kernel_rfl
@[simp] theorem aCe:T 144=⟨.other,1,8,[.nilFunc],[]⟩:=by kernel_rfl
@[simp] theorem t145:T 145=⟨.ptr 147,1,8,[.pointer none],[]⟩:=by kernel_rfl
@[simp] theorem aCf:T 147=⟨.struct [(0,22),(1,3)],2,32,[.slice none 0 0,.int .i64 0],[]⟩:=by kernel_rfl
@[simp] theorem aCg:T 151=⟨.other,1,8,[.nilFunc],[]⟩:=by kernel_rfl
@[simp] theorem aCh:T 152=⟨.map 25 3,1,8,[.map none],[]⟩:=by kernel_rfl
@[simp] theorem aCi:T 153=⟨.other,1,8,[.nilFunc],[]⟩:=by kernel_rfl
@[simp] theorem aCj:T 155=⟨.int .i64,1,8,[.int .i64 0],[]⟩:=by kernel_rfl
@[simp] theorem aCk:T 163=⟨.int .u32,1,4,[.int .u32 0],[]⟩:=by kernel_rfl
@[simp] theorem aCl:T 165=⟨.int .u64,1,8,[.int .u64 0],[]⟩:=by kernel_rfl
@[simp] theorem t167:T 167=⟨.other,1,8,[.nilFunc],[]⟩:=by kernel_rfl
@[simp] theorem aCm:T 170=⟨.arr 26 9,26,416,(List.replicate 26 (.string .empty)),[]⟩:=by kernel_rfl
@[simp] theorem t171:T 171=⟨.other,1,8,[.nilFunc],[]⟩:=by kernel_rfl
@[simp] theorem aCn:T 174=⟨.other,1,8,[.nilFunc],[]⟩:=by kernel_rfl
@[simp] theorem aCo:T 178=⟨.int .u64,1,8,[.int .u64 0],[]⟩:=by kernel_rfl
@[simp] theorem aCp:T 182=⟨.ptr 3,1,8,[.pointer none],[]⟩:=by kernel_rfl
@[simp] theorem aCq:T 185=⟨.other,1,8,[.nilFunc],[]⟩:=by kernel_rfl
@[simp] theorem aCr:T 190=⟨.arr 2 3,2,16,[.int .i64 0,.int .i64 0],[]⟩:=by kernel_rfl
@[simp] theorem aCs:T 191=⟨.arr 37 190,74,592,(List.replicate 74 (.int .i64 0)),[]⟩:=by kernel_rfl
@[simp] theorem aCt:T 192=⟨.ptr 178,1,8,[.pointer none],[]⟩:=by kernel_rfl
@[simp] theorem aCu:T 196=⟨.ptr 62,1,8,[.pointer none],[]⟩:=by kernel_rfl
@[simp] theorem aCv:T 199=⟨.other,1,8,[.nilFunc],[]⟩:=by kernel_rfl
@[simp] theorem aCw:T 204=⟨.int .i64,1,8,[.int .i64 0],[]⟩:=by kernel_rfl
@[simp] theorem aCx:T 207=⟨.ptr 225,1,8,[.pointer none],[]⟩:=by kernel_rfl
@[simp] theorem t210:T 210=⟨.slice 91,1,24,[.slice none 0 0],[]⟩:=by kernel_rfl
@[simp] theorem t213:T 213=⟨.other,1,8,[.nilFunc],[]⟩:=by kernel_rfl
@[simp] theorem aCy:T 215=⟨.other,1,8,[.nilFunc],[]⟩:=by kernel_rfl
@[simp] theorem aCz:T 216=⟨.slice 218,1,24,[.slice none 0 0],[]⟩:=by kernel_rfl
@[simp] theorem aCA:T 218=⟨.struct [(0,9),(1,3)],2,24,[.string .empty,.int .i64 0],[.str,.int .i64]⟩:=by kernel_rfl
@[simp] theorem aCB:T 219=⟨.arr 6 218,12,144,[.string .empty,.int .i64 0,.string .empty,.int .i64 0,.string .empty,.int .i64 0,.string .empty,.int .i64 0,.string .empty,.int .i64 0,.string .empty,.int .i64 0],[.str,.int .i64,.str,.int .i64,.str,.int .i64,.str,.int .i64,.str,.int .i64,.str,.int .i64]⟩:=by kernel_rfl
@[simp] theorem aCC:T 220=⟨.other,1,8,[.nilFunc],[]⟩:=by kernel_rfl
@[simp] theorem aCD:T 226=⟨.other,1,8,[.nilFunc],[]⟩:=by kernel_rfl
@[simp] theorem aCE:T 227=⟨.arr 24 5,24,24,(List.replicate 24 (.int .u8 0)),[]⟩:=by kernel_rfl
@[simp] theorem t232:T 232=⟨.ptr 5,1,8,[.pointer none],[]⟩:=by kernel_rfl
@[simp] theorem t233:T 233=⟨.ptr 235,1,8,[.pointer none],[]⟩:=by kernel_rfl
@[simp] theorem aCF:T 235=⟨.struct [(0,9)],1,16,[.string .empty],[.str]⟩:=by kernel_rfl
@[simp] theorem aCG:T 237=⟨.arr 20 165,20,160,(List.replicate 20 (.int .u64 0)),[]⟩:=by kernel_rfl
@[simp] theorem aCH:T 238=⟨.arr 65 5,65,65,(List.replicate 65 (.int .u8 0)),[]⟩:=by kernel_rfl
@[simp] theorem aCI:T 239=⟨.arr 32 5,32,32,(List.replicate 32 (.int .u8 0)),[]⟩:=by kernel_rfl
@[simp] theorem aCJ:T 240=⟨.arr 64 5,64,64,(List.replicate 64 (.int .u8 0)),[]⟩:=by kernel_rfl
open Go.RowKit
def IsRow(k:IntKind)(w:World)(a:Option Addr)(len cap:Nat)(zs:List Int):Prop:=
 (a=none/\len=0/\cap=0/\zs=[])\/
 ∃x,a=some x/\len<=cap/\cap<=maxLen/\zs.length=cap/\(∀i,i<zs.length->w.cell? (x.add i)=some (.int k (zs.getD i 0)))/\∀n∈zs,(Lit.int k n).wf=true
theorem XH{n:Int}(h:(Lit.int .i64 n).wf=true): -9223372036854775808<=n/\n<=9223372036854775807:=by
 simp only[Lit.wf,Bool.and_eq_true,decide_eq_true_eq,IntKind.min,IntKind.max,IntKind.signed,IntKind.bits]at h;exact⟨h.1,h.2⟩
theorem aBb{w:World}{a:Option Addr}{len cap:Nat}{zs:List Int}(h:IsRow .i64 w a len cap zs):∀n∈zs.take len, -9223372036854775808<=n/\n<=9223372036854775807:=λn hn=>by
 have hn:=List.mem_of_mem_take hn;rcases h with⟨_,_,_,rfl⟩|⟨x,_,_,_,_,_,h⟩
 ·cases hn
 ·exact XH (h n hn)
theorem aBh{w:World}{k:IntKind}{a:Option Addr}{len cap:Nat}{zs:List Int}(h:IsRow k w a len cap zs):RD w (λ_=>False) (.sl ((zs.take len).map (.int k))) (.slice a len cap):=by
 rcases h with⟨rfl,rfl,rfl,rfl⟩|⟨x,rfl,h1,h2,h3,h4,h5⟩
 ·exact .sl0 _ 0 (Nat.zero_le _)
 ·by_cases h0:len=0
  ·subst h0;rw[List.take_zero];exact .sl0 _ cap h2
  ·obtain⟨b,o,rfl,hc⟩:=ints_at h4 aE;have hl:((zs.take len).map (DV.int k)).length=len:=kG;have hfl:bS ((zs.take len).map (DV.int k))=(zs.take len).map (DV.int k):=by
    unfold bS;rw[List.flatMap_map];induction zs.take len with
    |nil=>rfl
    |cons a l ih=>rw[List.flatMap_cons,ih];rfl
   have:=RD.sl (w:=w) (E:=λ_=>False) ((zs.take len).map (.int k)) b o cap 1 ((zs.take len).map (.int k)) (λe=>by rw[e]at hl;simp at hl;omega) (λh=>h) (λx hx=>by obtain⟨n,_,rfl⟩:=List.mem_map.1 hx;rfl)
    (by rw[hl];exact h1) h2 aM (λu hu=>by obtain⟨n,_,rfl⟩:=List.mem_map.1 hu;rfl) (Xk (hc 0 aE)) (λj u hj=>by
      have hj':j<len:=by
       have:=(List.getElem?_eq_some_iff.1 hj).1;simp at this;omega
      have hz:j<zs.length:=aE;have:=hc j hz;rw[this];simp[hj',hz]at hj;simp[hz,hj]) (λi d v hd hv=>by
      rw[hfl]at hd;simp only[List.getElem?_map]at hd hv;cases q:(zs.take len)[i]? with
      |none=>rw[q]at hd;cases hd
      |some n=>rw[q]at hd hv;cases hd;cases hv;exact .int k n)
   rw[hl]at this;exact this
theorem Mm.nil{w:World}{E:Nat->Prop}:Mm w E [] []:=⟨rfl,λi c v h=>by simp at h⟩
theorem Mm.cons{w:World}{E:Nat->Prop}{d:DV}{v:Value}{ds:List DV}{vs:List Value}(h:RD w E d v)(hs:Mm w E ds vs):Mm w E (d::ds) (v::vs):=
 ⟨by simp[hs.1],λi c u hc hu=>by
   cases i with
   |zero=>simp at hc hu;subst hc;subst hu;exact h
   |succ i=>exact hs.2 i c u (by simpa using hc) (by simpa using hu)⟩
theorem aAw{P:Program}{f:FuncId}{args:List DV}{fr:Bool}(h:Ok P f args ⟨.d (.bool true),fr⟩)(w:World)(vs:List Value)(hr:Mm w (λ_=>False) args vs)(hg:yI w (λ_=>False):=by intro n cs h;simp[Go.Eng.globD]at h):
 Calls P f vs.toArray w λe w'=>e=.returned (.bool true)/\Below w.heap.size w w':=
 (h.2 w (λ_=>False) vs ⟨λ_ h=>h.elim,hg⟩ hr).mono λ_ _ ⟨v,h1,h2,h3⟩=>by
   obtain⟨_,h4⟩:=h3;cases h4;exact⟨h1,h2.below⟩
theorem AQ.own_d{w w':World}{E E':Nat->Prop}{B:Option Nat}{s:Nat}{xs:List DV}{v:Value}(h:AQ w w' E B (.own s xs) v)(hE:∀k,E' k->k<w.heap.size)(hEE:∀k,E' k->E k):RD w' E' (.sl xs) v:=by
 obtain⟨hs,hxs,h⟩:=h;rcases h with⟨_,rfl,a,rfl⟩|⟨b,c,cur,e,_,rfl,hb,hblk,hl,hc,hcs,hcell⟩
 ·exact .sl0 a 0 (Nat.zero_le _)
 ·by_cases hx:xs=[]
  ·subst hx;exact .sl0 _ c hc
  ·have hfl:=flat_len hxs;have hle:xs.length*s<=cur.size:=by rw[<-hcs];exact Nat.mul_le_mul_right _ hl
   have hlt:b<w'.heap.size:=(Array.getElem?_eq_some_iff.1 hblk).1;refine .sl xs b 0 c s (cur.toList.take (xs.length*s)) hx (λq=>by have:=hE b q;omega) hxs hl hc kG (λu hu=>?_) hlt (λj u hj=>?_) (λi d v hd hv=>?_)
   ·obtain⟨j,hj,rfl⟩:=List.getElem_of_mem hu;simp only[List.length_take,Array.length_toList]at hj;have hjc:j<cur.size:=aE;have hjf:j<(bS xs).length:=by rw[hfl];omega
    simp only[List.getElem_take,Array.getElem_toList];exact(hcell j _ _ (List.getElem?_eq_getElem hjf) (Array.getElem?_eq_getElem hjc)).1
   ·rw[cell_of_row w' b _ cur e (0,0) hblk,Nat.zero_add];rw[List.getElem?_take]at hj;split at hj
    ·simpa using hj
    ·cases hj
   ·rw[List.getElem?_take]at hv;split at hv
    ·exact((hcell i d v hd (by simpa using hv)).2).anti hEE
    ·cases hv
theorem Gm{P:Program}{f:FuncId}{args:List DV}{s:Nat}{xs:List DV}{y:DV}{fr:Bool}(h:Ok P f args ⟨.tup [.own s xs,.d y],fr⟩):Ok P f args ⟨.tup [.d (.sl xs),.d y],fr⟩:=
 ⟨h.1,λw X vs hX hr=>(h.2 w X vs hX hr).mono λ_ _ ⟨v,h1,h2,us,B,h3,h4,h5,h6⟩=>
   ⟨v,h1,h2,us,λ_=>none,h3,h4,λ_ _ _ q=>(by cases q),λi r u hi hu=>by
     match i,hi with
     |0,hi=>
      cases hi;exact(h6 0 _ u rfl hu).own_d (λk q=>by
       rcases q with(q|⟨_,q⟩)|⟨_,q⟩
       ·exact hX.1 k q
       ·exact q
       ·cases q) (λk q=>by
       rcases q with q|⟨_,q⟩
       ·exact .inl q
       ·cases q)
     |1,hi=>
      cases hi;exact RD.anti (λk q=>by
       rcases q with q|⟨_,q⟩
       ·exact .inl q
       ·cases q) (h6 1 _ u rfl hu)⟩⟩
section
open Go.RowKit
section
variable{P:Program} {T:TypeId->fE} {w0:cX} {X:Nat->Prop} {env:eD} {H:dM}
def Pv(w0:cX)(T:TypeId->fE)(t:Nat)(ty:TypeId)(fin:List (Nat×bB))(ret:LV)(x:LX)(env:eD)(H:dM):Prop:=
 (match x with| .exit _=>False|_=>True)/\(qX T H ty (env t)).ok/\iH w0 (aR [(0,(qX T H ty (env t)).v)]) H (aR [(0,ret)]) (aL fin)
theorem bP{t:Nat}{ty:TypeId}{fin:List (Nat×bB)}{ret:LV}:Pv w0 T t ty fin ret .ret env H↔(qX T H ty (env t)).ok/\iH w0 (aR [(0,(qX T H ty (env t)).v)]) H (aR [(0,ret)]) (aL fin):=by simp[Pv]
theorem iG.cell(hT:fP P T){f:FuncId}{fn:Func}{c:Code}{args:List LV}{h fin:List (Nat×bB)}{ret:LV}{n t:Nat}{ty:TypeId}(hf:P.funcs[f]? =some fn)(hname:(fn.name== "runtime.NumGoroutine")=false)(hb:fn.body=some c)(hn:fn.ntmps=n)(hargs:args.length<=n)(hres:fn.results= #[.cell t ty])
 (hw:∀w0 X,w0.pins=h.map (·.1)->eW P n w0 X c (Pv w0 T t ty fin ret) (HX args) (aL h)):iG P f args h fin ret:=
 vI hf hname hb hn hargs λw0 X hp=>(hw w0 X hp).mono λx env H ⟨h1,h2,h3⟩=>⟨h1,λβ a w s=>by
  obtain⟨v,hv,hr⟩:=vH hT s h2;have s1:mC 1 w0 X (aR [(0,(qX T H ty (env t)).v)]) H β ⟨#[v],[]⟩ w:=by
   refine⟨FS.nil,rfl,s.ext,s.xold,s.fresh,s.inj,λt'=>?_,s.obj,s.pin⟩;cases t' with
   |zero=>exact hr
   |succ t'=>exact .junk _
  obtain⟨β',s'⟩:=h3 _ _ _ _ _ s1;have e:=s'.env 0;rw[show aR [(0,ret)] 0=ret by simp[aR,oL]]at e;refine⟨v,β',?_,s'.mem,e⟩;simp only[results,hres];simpa [Sem.run_bind,Result.andThen]using hv⟩
theorem bA{l:LV}{x:DV}{env':eD}{H':dM}(h:Eng.close H 8 l=some x)(k:iH w0 (aR [(0,.d x)]) (bW H (bI H (bR H 8 l))) env' H'):iH w0 (aR [(0,l)]) H env' H':=by
 have e:cE (aR [(0,l)]) 0 (.d x)=aR [(0,.d x)]:=by
  funext j;by_cases q:j=0
  ·subst q;rfl
  ·rw[cG _ _ q];simp[aR,oL,q,Ne.symm q]
 have z:aR [(0,l)] 0=l:=by simp[aR,oL]
 have c:=iH.close (w0:=w0) (H:=H) (env:=aR [(0,l)]) 0 (x:=x) (by rw[z];exact h);rw[e,z]at c;exact c.trans k
theorem UG{β:Nat->Option Nat}{w:World}(m:dR w0 X H β w){id b:Nat}(hl:(H id).live=true)(hm:(H id).mut=false)(hb:β id=some b):¬Ex X β H b:=λhe=>by
 have hf:=m.fresh id b hl hb;rcases he with he|⟨i,h1,h2⟩
 ·rcases hf.1 with h1|h1
  ·have:=(m.xold.1 b he).1;omega
  ·exact(m.xold.1 b he).2 h1.1
 ·have:=m.inj i id b (bK h1) hl h2 hb;subst this;rw[hm]at h1;cases h1
theorem iH.freeze(ids:List Nat):iH w0 env H env (bW H (bI H ids)):=λN X β a w s=>by
 obtain⟨m,g⟩:=s.mem.freeze ids;exact⟨β,g.marks s.defers,s.size,m.ext,m.xold,m.fresh,m.inj,λu=>g.R (s.env u),m.obj,m.pin⟩
theorem iH.shut(b:Nat){fz:Bool}{cs:List LV}{ds:List DV}(hH:H b=.box fz cs)(h:cM (cs.map (Eng.close H 8))=some ds)(ht:∀c∈cs,∀id∈bR H 8 c,(H id).mut=false):iH w0 env H env (cE H b (.box fz (ds.map .d))):=λN X β a w s=>by
 obtain⟨e1,e2⟩:=kZ h;obtain⟨m2,g2⟩:=s.mem.rebox (cs':=ds.map .d) hH (by simp[e1]) (λi c c' v hc hc' hr=>by
  obtain⟨d,hd,rfl⟩:=eG hc';have hcl:=e2 i _ _ hc hd;exact .d _ _ (nV s.mem.obj (λ_ _ h=>h) 8 c d v hcl (λid hid b hb=>UG s.mem (mW 8 c d hcl id hid) (ht c (List.mem_of_getElem? hc) id hid) hb) hr))
 exact⟨β,g2.marks s.defers,s.size,m2.ext,m2.xold,m2.fresh,m2.inj,λu=>g2.R (s.env u),m2.obj,m2.pin⟩
theorem bN(b:Nat)(ids:List Nat){fz:Bool}{cs:List LV}{ds:List DV}(hH:H b=.box fz cs)(hb:b∉ids)(h:cM (cs.map (Eng.close (bW H (bI H ids)) 8))=some ds)
 (ht:∀c∈cs,∀id∈bR (bW H (bI H ids)) 8 c,(bW H (bI H ids) id).mut=false):iH w0 env H env (cE (bW H (bI H ids)) b (.box fz (ds.map .d))):=
 (iH.freeze ids).trans (iH.shut b (by rw[fF,if_neg hb];exact hH) h ht)
theorem yN{ι:Type}{E:ι->eD}{O:ι->dM}{I:ι->Prop}{μ:ι->Nat}{i:ι}{env':eD}{H':dM}(h:iH w0 env H env' H')(k:Pq w0 E O I μ i env' H'):Pq w0 E O I μ i env H:=by
 obtain⟨j,hw,r⟩:=k;exact⟨j,h.trans hw,r⟩
theorem gZ{ι:Type}{E:ι->eD}{O:ι->dM}{I:ι->Prop}{env':eD}{H':dM}(h:iH w0 env H env' H')(k:∃i,iH w0 env' H' (E i) (O i)/\I i):∃i,iH w0 env H (E i) (O i)/\I i:=by
 obtain⟨i,hw,r⟩:=k;exact⟨i,h.trans hw,r⟩
end
end
section
open Go.RowKit
structure XI where
 ds:List DV
 vs:List Value
 rd:∀w E,Mm w E ds vs
def UH(P:Program)(f:FuncId)(caps:List DV)(items:List XI):Prop:=
 pN P f/\∀(w:World) (X:Nat->Prop) (lb:List Value) (l:Nat) (J:(Nat->Prop)->Nat->World->Prop),Xl w X->Mm w X caps lb->
  (∀W,zN w.heap.size w W->J (λk=>w.heap.size<=k/\k<W.heap.size) 0 W)->
  (∀K i W W',J K i W->zN W.heap.size W W'->J (λk=>K k\/W.heap.size<=k/\k<W'.heap.size) i W')->
  (∀K i W (x:XI),J K i W->items[i]? =some x->YieldAt Fence.wide 0 P l x.vs.toArray W λe W'=>e=.returned (.bool true)/\J K (i+1) W'/\W.heap.size<=W'.heap.size/\∀k,K k\/(k<w.heap.size/\¬X k)->W'.heap[k]? =W.heap[k]?)->
  Calls P f (#[.func (.yield l) #[] #[]]++lb.toArray) w λe W'=>(∃v,e=.returned v)/\∃K,J K items.length W'
section
variable{P:Program} {T:TypeId->fE} {N:Nat} {w0:cX} {X:Nat->Prop} {Q:LX->eD->dM->Prop} {env:eD} {H H':dM} {β β':Nat->Option Nat} {w w':World}
theorem dR.rebase(m:dR w0 X H β w)(pins:List Nat)(hp:∀id,H id≠ .absent->id∈pins):dR ⟨w,β,H,pins,true⟩ X H β w:=by
 have hl:∀{id},(H id).live=true->id∈pins:=λ{id} h=>hp id λe=>by rw[e]at h;cases h
 have hmine:∀k,cX.mine ⟨w,β,H,pins,true⟩ k->w0.w.heap.size<=k\/w0.mine k:=λk ⟨id,_,h1,h2⟩=>(m.fresh id k h1 h2).1.imp (λh=>h) And.left;refine⟨⟨rfl,rfl,rfl,Nat.le_refl _,λ_ _ _=>rfl,Nat.le_refl _⟩,⟨λk hk=>⟨?_,?_⟩,?_⟩,λid b h hb=>⟨.inr ⟨⟨id,hl h,h,hb⟩,λhm=>⟨id,hl h,hm,hb⟩⟩,(m.fresh id b h hb).2⟩,m.inj,m.obj,λid _=>bQ.refl id⟩
 ·exact Nat.lt_of_lt_of_le (m.xold.1 k hk).1 m.ext.size
 ·intro h;rcases hmine k h with h|h
  ·have:=(m.xold.1 k hk).1;omega
  ·exact(m.xold.1 k hk).2 h
 ·refine m.globL.anti λk h=>h.imp (λh=>h) ?_;rintro⟨id,_,h1,h2⟩;exact⟨id,h1,h2⟩
theorem dR.unbase{pins:List Nat}(m:dR w0 X H β w)(hp:∀id,H id≠ .absent->id∈pins)(m':dR ⟨w,β,H,pins,true⟩ X H' β' w'):dR w0 X H' β' w'/\eT X H β w H' β' w':=by
 have hpass:∀id,bQ w β H w' β' H' id:=λid=>by
  by_cases h:H id=.absent
  ·unfold bQ;rw[h];trivial
  ·exact m'.pin id (hp id h)
 have hown:∀k,cX.own ⟨w,β,H,pins,true⟩ k->∃id,(H id).mut=true/\β id=some k:=λk ⟨id,_,h1,h2⟩=>⟨id,h1,h2⟩;have g:eT X H β w H' β' w':=by
  refine⟨m'.ext.size,λk hk hn=>m'.ext.block k hk λh=>hn (.inr (hown k h)),λk hk h=>?_,hpass⟩;rcases h with h|⟨id,h1,h2⟩
  ·exact .inl h
  ·rcases(m'.fresh id k (bK h1) h2).1 with h|h
   ·exact absurd hk (Nat.not_lt.2 h)
   ·exact .inr (hown k (h.2 h1))
 refine⟨⟨⟨m'.ext.os.trans m.ext.os,m'.ext.tape.trans m.ext.tape,m'.ext.output.trans m.ext.output,Nat.le_trans m.ext.size m'.ext.size,λk hk hn=>?_,Nat.le_trans m.ext.drawn m'.ext.drawn⟩,m.xold,λid b hl hb=>⟨?_,(m'.fresh id b hl hb).2⟩,m'.inj,m'.obj,
  λid hid=>(m.pin id hid).trans (hpass id)⟩,g⟩
 ·refine(m'.ext.block k (Nat.lt_of_lt_of_le hk m.ext.size) λh=>?_).trans (m.ext.block k hk hn);obtain⟨id,h1,h2⟩:=hown k h;rcases(m.fresh id k (bK h1) h2).1 with h|h
  ·omega
  ·exact hn (h.2 h1)
 ·rcases(m'.fresh id b hl hb).1 with h|⟨⟨i,_,h1,h2⟩,h3⟩
  ·exact .inl (Nat.le_trans m.ext.size h)
  ·rcases(m.fresh i b h1 h2).1 with h|⟨h,h'⟩
   ·exact .inl h
   ·refine .inr ⟨h,λhm=>?_⟩;obtain⟨j,h4,h5⟩:=hown b (h3 hm);have:i=j:=m.inj i j b h1 (bK h4) h2 h5;subst this;exact h' h4
theorem eT.still{H0:dM}{β0:Nat->Option Nat}{u:World}{l:Nat}{o:Obj}(g:eT X H0 β0 u H β w)(o':Obj)(ho:w.heap[l]? =some o)(hc:rN o=false)(hl:u.heap.size<=l):eT X H0 β0 u H β (w.putObj l o'):=
 ⟨by rw[World.putObj_size];exact g.size,λk hk hn=>(World.putObj_heap_other aE).trans (g.blk k hk hn),g.sub,λid=>(g.pass id).trans (yL o' ho hc id)⟩
theorem dR.forget(m:dR w0 X H β w)(pins:List Nat)(hn:pins.Nodup)(hp:∀id∈w0.pins,id∈pins):
 ∃β',dR w0 X (aL (pins.map λp=>(p,cQ (pins.map λp=>(p,p)) (H p)))) β' w/\(∀id∈pins,β' id=β id/\aL (pins.map λp=>(p,cQ (pins.map λp=>(p,p)) (H p))) id=cQ (pins.map λp=>(p,p)) (H id))/\
  (∀id,(aL (pins.map λp=>(p,cQ (pins.map λp=>(p,p)) (H p))) id).live=true->id∈pins):=by
 have look:∀l:List Nat,∀id∈l,dP (l.map λp=>(p,p)) id=some id:=λl id h=>by
  induction l with
  |nil=>cases h
  |cons p r ih=>
   by_cases e:id=p
   ·simp[dP,e]
   ·simp only[List.map_cons,dP,if_neg e];exact ih ((List.mem_cons.1 h).resolve_left e)
 have s:mC 0 w0 X (λ_=>.junk) H β ⟨#[],[]⟩ w:=⟨FS.nil,rfl,m.ext,m.xold,m.fresh,m.inj,λ_=>.junk _,m.obj,m.pin⟩;obtain⟨β',s',h⟩:=Po [] (pins.map λp=>(p,p)) (by rw[List.map_map,show((λx:Nat×Nat=>x.snd)∘λp=>(p,p))=id from rfl,List.map_id];exact hn) (by rw[List.map_map,show((λx:Nat×Nat=>x.fst)∘λp=>(p,p))=id from rfl,List.map_id];exact hn) (λid hid=>look pins id (hp id hid)) 0 X β _ w s;simp only[List.map_map]at s' h;refine⟨β',s'.mem,λid hid=>⟨(h id id (look pins id hid)).2,(h id id (look pins id hid)).1⟩,λid hl=>?_⟩;have key:∀(l:List Nat) (f:Nat->bB),(fI (l.map λp=>(p,f p)) id).live=true->id∈l:=λl f=>by
  induction l with
  |nil=>intro h;cases h
  |cons p r ih=>
   intro h;by_cases e:id=p
   ·simp[e]
   ·simp only[List.map_cons,fI,if_neg e]at h;exact List.mem_cons_of_mem _ (ih h)
 exact key pins _ hl
def vJ(env:eD):List Nat->List DV->eD
 |p::ps,d::ds=>vJ (cE env p (.d d)) ps ds
 |_,_=>env
theorem UI{E:Nat->Prop}:∀(ps:List Nat) (ds:List DV) (vs:List Value) (env:eD) (tm:Array Value),vs.length=ps.length->Mm w E ds vs->(∀p∈ps,p<tm.size)->(∀t,Eng.R w E β H (env t) (tm.getD t undef))->
 ∀t,Eng.R w E β H (vJ env ps ds t) (((ps.zip vs).foldl (λtm (p,v)=>tm.setIfInBounds p v) tm).getD t undef):=by
 intro ps;induction ps with
 |nil=>intro ds vs env tm hl _ _ h;cases ds<;>exact h
 |cons p ps ih=>
  intro ds vs env tm hl hr hb h
  match vs,hl with
  |v::vs,hl=>
  match ds,hr.1 with
  |d::ds,hrl=>
  simp only[List.zip_cons_cons,List.foldl_cons,vJ];refine ih ds vs _ _ (by simpa using hl) ⟨by simpa using hrl,λi c u hc hu=>hr.2 (i+1) c u (by simpa using hc) (by simpa using hu)⟩ (λq hq=>by simp;exact hb q (List.mem_cons_of_mem _ hq)) λt=>?_;have hp:p<tm.size:=hb p (List.mem_cons_self ..);unfold cE;by_cases e:t=p
  ·subst e;simp[Array.getD_eq_getD_getElem?,hp];exact .d _ _ (hr.2 0 d v rfl rfl)
  ·rw[if_neg e];have:=h t;simp only[Array.getD_eq_getD_getElem?]at this|-
   rwa[Array.getElem?_setIfInBounds_ne (Ne.symm e)]
theorem DT:∀(l:List (Nat×Value)) (tm:Array Value),(l.foldl (λtm (p,v)=>tm.setIfInBounds p v) tm).size=tm.size
 |[],_=>rfl
 |x::l,tm=>by simp only[List.foldl_cons];rw[DT l];simp
theorem RA:∀{a b:List Nat},a.map (λD=>({target:=.collected D,args:= #[]}:Deferred))=b.map (λD=>{target:=.collected D,args:= #[]})->a=b:=by
 intro a;induction a with
 |nil=>intro b h;cases b with
  |nil=>rfl
  |cons _ _=>cases h
 |cons x a ih=>intro b h;cases b with
  |nil=>cases h
  |cons y b=>
   simp only[List.map_cons,List.cons.injEq,Deferred.mk.injEq,Target.collected.injEq]at h;rw[h.1.1,ih h.2]
def JZ(w1:cX)(E':eD)(O':dM)(x:LX)(env':eD)(H':dM):Prop:=(match x with| .normal=>True|_=>False)/\iH w1 env' H' E' O'
theorem bF{w1:cX}{E':eD}{O':dM}{env':eD}{H':dM}:JZ w1 E' O' .normal env' H'↔iH w1 env' H' E' O':=by simp[JZ]
theorem eW.rangeFunc{g:Operand}{ps:Array Tmp}{assign body:Code}{f:FuncId}{caps:List DV}{items:List XI}(hIt:UH P f caps items)(hg:kH env g=.d (.fn f caps))(hps:∀x∈items,x.vs.length=ps.size)(hN:∀p∈ps.toList,p<N)
 (hc1:mY assign=true)(hc2:mY body=true)(O O2:Nat->dM)(hO:O 0=H)(pins:List Nat)(hnd:pins.Nodup)(hw0:∀id∈w0.pins,id∈pins)(hpin:∀i id,O i id≠ .absent->id∈pins)
 (E1:Nat->eD)(O1:Nat->dM)(pins1:List Nat)(hpin1:∀i id,O1 i id≠ .absent->id∈pins1)
 (hO2:∀i,i<items.length->O (i+1)=aL (pins.map λp=>(p,cQ (pins.map λp=>(p,p)) (O2 i p))))
 (ha:∀(w1:cX) X1 i x,w1.pins=pins->items[i]? =some x->eW P N w1 X1 assign (JZ w1 (E1 i) (O1 i)) (vJ env ps.toList x.ds) (O i))
 (hb:∀(w1:cX) X1 i x,w1.pins=pins1->items[i]? =some x->eW P N w1 X1 body (JZ w1 (aR []) (O2 i)) (E1 i) (O1 i))
 (hq:Q .normal env (O items.length)):eW P N w0 X (.rangeFunc g ps assign body) Q env H:=by
 intro r hr β a w s;obtain⟨hn,hfl⟩:=hr.resolve_right (by simp[mY]);subst hn;refine wpIn_rangeFunc λfn _=>?_;have hrd:=s.get g;rw[hg]at hrd;obtain⟨lb,hev,hlb⟩:∃lb:List Value,a.eval g=.func (.func f) #[] lb.toArray/\Mm w (Ex X β H) caps lb:=by
  obtain⟨gv,hgv⟩:∃gv,a.eval g=gv:=⟨_,rfl⟩;rw[hgv]at hrd|-;cases hrd with
  |d _ _ h=>cases h with
   |fn _ _ vs hl hc=>exact⟨vs,rfl,hl,hc⟩
 obtain⟨rec,hrec⟩:∃rec:LoopState->Option Code->Loop,rec=λst pe=>{state:=st,pending:=pe,fn,tmps:=a.tmps,params:=ps,assign,body,defers:=w.heap.size}:=⟨_,rfl⟩;obtain⟨W1,hW1⟩:∃W1,(w.alloc (.deferred (some []))).alloc (.loop (rec .ready none))=W1:=⟨_,rfl⟩;have hL1:W1.heap[w.heap.size+1]? =some (.loop (rec .ready none)):=by
  rw[<-hW1];have:=World.alloc_heap_new (w.alloc (.deferred (some []))) (.loop (rec .ready none));rwa[World.size_alloc]at this
 have hK1:W1.heap[w.heap.size]? =some (.deferred (some [])):=by
  rw[<-hW1];exact(Below.heap_alloc _ _ _ aM).trans (World.alloc_heap_new w _)
 have hs1:W1.heap.size=w.heap.size+2:=by rw[<-hW1];simp
 have bel1:zN w.heap.size w W1:=by
  refine⟨by rw[<-hW1];rfl,by rw[<-hW1];rfl,by rw[<-hW1];rfl,aE,λk hk=>?_,by rw[<-hW1];exact Nat.le_refl _⟩;rw[<-hW1,Below.heap_alloc _ _ _ (by rw[World.size_alloc];omega),Below.heap_alloc _ _ _ hk]
 obtain⟨mw1,gw1⟩:=s.mem.grow bel1;have hold:∀id b,(H id).live=true->β id=some b->b<w.heap.size:=λid b h1 h2=>(s.fresh id b h1 h2).2;have hxo:∀k,Ex X β H k->k<w.heap.size:=λk h=>by
  rcases h with h|⟨id,h1,h2⟩
  ·exact Nat.lt_of_lt_of_le (s.xold.1 k h).1 s.ext.size
  ·exact hold id k (bK h1) h2
 obtain⟨fn',hfn',hname',hbody'⟩:=hIt.1;have eg:∀args w,(callFunc f args).run P w=.ok (.enter f args) w:=λargs w=>by
  have hbn:fn'.body.isNone=false:=by cases q:fn'.body<;>simp_all
  simp only[callFunc,Sem.run_bind,Sem.run_pure,Result.andThen_ok,run_program,hfn',hname',Bool.false_eq_true,if_false,hbn]
 refine⟨w.heap.size+1,[{target:=.collected w.heap.size,args:= #[]}],W1,{target:=.fn (.func f) lb.toArray,args:= #[.func (.yield (w.heap.size+1)) #[] #[]]},W1,f,
  #[.func (.yield (w.heap.size+1)) #[] #[]]++lb.toArray,W1,?_,?_,λ_ _=>trivial,?_,λh=>(by cases h),callsIn_wide.2 ?_⟩
 ·rw[<-hW1,hrec];exact run_enterLoop_outer _ _ _ _ _
 ·simp only[resolve,hev];simp[go_sem]
 ·simp[invoke,go_sem,eg]
 have ow:Xl W1 (Ex X β H):=⟨λk hk=>by have:=hxo k hk;omega,mw1.glob⟩;have lb1:Mm W1 (Ex X β H) caps lb:=⟨hlb.1,λi c v hc hv=>gw1.D (hlb.2 i c v hc hv)⟩;obtain⟨J,hJ⟩:∃J:(Nat->Prop)->Nat->World->Prop,J=λK i W=>∃β',dR w0 X (O i) β' W/\eT X H β w (O i) β' W/\W.heap[w.heap.size+1]? =some (.loop (rec .ready none))/\W.heap[w.heap.size]? =some (.deferred (some []))/\
  (∀id b,(O i id).live=true->β' id=some b->b<w.heap.size\/(¬K b/\w.heap.size+1<b))/\∀k,K k->w.heap.size+1<k/\k<W.heap.size:=⟨_,rfl⟩
 refine(hIt.2 W1 (Ex X β H) lb (w.heap.size+1) J ow lb1 ?_ ?_ ?_).mono ?_
 ·intro W bel;rw[hJ];obtain⟨m2,g2⟩:=mw1.grow bel;refine⟨β,by rw[hO];exact m2,by rw[hO];exact gw1.trans g2,(bel.block _ aE).trans hL1,(bel.block _ aE).trans hK1,λid b h1 h2=>.inl (by rw[hO]at h1;exact hold id b h1 h2),λk hk=>⟨aE,hk.2⟩⟩
 ·intro K i W W' hj bel;rw[hJ]at hj|-;obtain⟨β',m,gg,q1,q2,q3,q4⟩:=hj;obtain⟨m2,g2⟩:=m.grow bel;have hlt1:=(Array.getElem?_eq_some_iff.1 q1).1;refine⟨β',m2,gg.trans g2,(bel.block _ hlt1).trans q1,(bel.block _ aE).trans q2,λid b h1 h2=>?_,λk hk=>?_⟩
  ·rcases q3 id b h1 h2 with h|⟨h,h'⟩
   ·exact .inl h
   ·refine .inr ⟨λhk=>?_,h'⟩;rcases hk with hk|hk
    ·exact h hk
    ·have:=(m.fresh id b h1 h2).2;omega
  ·have:=bel.size;rcases hk with hk|hk
   ·have:=q4 k hk;omega
   ·omega
 ·intro K i W x hj hx;have hjW:=hj;rw[hJ]at hj;obtain⟨β',m,gg,q1,q2,q3,q4⟩:=hj;have hlt1:=(Array.getElem?_eq_some_iff.1 q1).1;have hi:i<items.length:=(List.getElem?_eq_some_iff.1 hx).1;have hxl:=hps x (List.mem_of_getElem? hx);have hl0:w0.w.heap.size<=w.heap.size:=s.ext.size;have hy:=run_yield (P:=P) (args:=x.vs.toArray) q1 (by rw[hrec];simpa using hxl);refine⟨_,_,_,_,hy,?_⟩;rw[hrec];refine roundIn_of_wpIn trivial ?_;have mA:=m.rebase pins (hpin i);have hsz:(x.vs.toArray.size=ps.size):=by simpa using hxl
  have hfold:(ps.zip x.vs.toArray).foldl (λtmps (t,v)=>tmps.setIfInBounds t v) a.tmps=(ps.toList.zip x.vs).foldl (λtm (p,v)=>tm.setIfInBounds p v) a.tmps:=by
   rw[<-Array.foldl_toList];simp
  have sA:mC N ⟨W,β',O i,pins,true⟩ X (vJ env ps.toList x.ds) (O i) β' ⟨(ps.zip x.vs.toArray).foldl (λtmps (t,v)=>tmps.setIfInBounds t v) a.tmps,[]⟩ W:=by
   refine⟨FS.nil,?_,mA.ext,mA.xold,mA.fresh,mA.inj,λt=>?_,mA.obj,mA.pin⟩
   ·rw[hfold,DT];exact s.size
   ·simp only[hfold];exact UI ps.toList x.ds x.vs env a.tmps (by simpa using hxl) (x.rd _ _) (λp hp=>by rw[s.size];exact hN p hp) (λt=>gg.R (s.env t)) t
  refine wpIn_mono (ha ⟨W,β',O i,pins,true⟩ X i x rfl hx (some (w.heap.size+1)) (.inr ⟨hc1,rfl⟩) β' _ W sA) ?_;rintro e a1 Wa ⟨lx,env1,H1,β1,g1,s1,g2,g3⟩;cases lx with
  |exit id=>exact g2.elim
  |ret=>exact g2.elim
  |normal=>
  cases e<;>simp only[gM]at g1;obtain⟨β2,s2⟩:=g3 _ _ _ _ _ s1;obtain⟨m1,gA⟩:=m.unbase (hpin i) s2.mem;have gW1:=gg.trans gA;have keepA:∀k,K k\/(k<w.heap.size/\¬Ex X β H k)\/k=w.heap.size\/k=w.heap.size+1->¬Ex X β' (O i) k:=λk hk he=>by
   rcases he with he|⟨id,h1,h2⟩
   ·have:=(s.xold.1 k he).1;rcases hk with hk|⟨_,hk⟩|hk|hk
    ·have:=q4 k hk;omega
    ·exact hk (.inl he)
    ·omega
    ·omega
   ·have h3:=q3 id k (bK h1) h2;rcases hk with hk|⟨hk,hk'⟩|hk|hk
    ·rcases h3 with h3|h3
     ·have:=q4 k hk;omega
     ·exact h3.1 hk
    ·exact hk' (gg.sub k hk (.inr ⟨id,h1,h2⟩))
    ·rcases h3 with h3|h3<;>omega
    ·rcases h3 with h3|h3<;>omega
  have ltW:∀k,K k\/(k<w.heap.size/\¬Ex X β H k)\/k=w.heap.size\/k=w.heap.size+1->k<W.heap.size:=λk hk=>by
   rcases hk with hk|⟨hk,_⟩|hk|hk
   ·exact(q4 k hk).2
   ·omega
   ·omega
   ·omega
  have sameA:∀k,K k\/(k<w.heap.size/\¬Ex X β H k)\/k=w.heap.size\/k=w.heap.size+1->Wa.heap[k]? =W.heap[k]? :=λk hk=>gA.blk k (ltW k hk) (keepA k hk);have hLa:=(sameA _ (.inr (.inr (.inr rfl)))).trans q1;refine⟨_,run_beginRound hLa (by rw[hrec]),?_⟩;obtain⟨Wb,hWb⟩:∃Wb,Wa.putObj (w.heap.size+1) (.loop {rec .ready none with state:=.busy})=Wb:=⟨_,rfl⟩;have hszb:Wb.heap.size=Wa.heap.size:=by rw[<-hWb];simp
  have mb:dR w0 X (O1 i) β2 Wb:=by rw[<-hWb];exact m1.still _ hLa rfl aE
  have gb:eT X H β w (O1 i) β2 Wb:=by rw[<-hWb];exact gW1.still _ hLa rfl aE
  have sameB:∀k,k≠w.heap.size+1->Wb.heap[k]? =Wa.heap[k]? :=λk hk=>by rw[<-hWb];exact World.putObj_heap_other hk
  have hLb:Wb.heap[w.heap.size+1]? =some (.loop {rec .ready none with state:=.busy}):=by
   rw[<-hWb];exact World.putObj_heap_same (Array.getElem?_eq_some_iff.1 hLa).1
  rw[hWb];have q3a:∀id b,(O1 i id).live=true->β2 id=some b->b<w.heap.size\/(¬K b/\w.heap.size+1<b):=λid b h1 h2=>by
   rcases(s2.fresh id b h1 h2).1 with h|⟨⟨j,_,h3,h4⟩,_⟩
   ·have h:W.heap.size<=b:=h;exact .inr ⟨λhk=>by have:=q4 b hk;omega,aE⟩
   ·exact q3 j b h3 h4
  have mB:=mb.rebase pins1 (hpin1 i);have sB:mC N ⟨Wb,β2,O1 i,pins1,true⟩ X (E1 i) (O1 i) β2 a1 Wb:=by
   refine⟨?_,s2.size,mB.ext,mB.xold,mB.fresh,mB.inj,λt=>?_,mB.obj,mB.pin⟩
   ·obtain⟨Ds,d0,_,d2,_⟩:=s2.defers;rw[d0 rfl]at d2;rw[d2];exact FS.nil
   ·rw[<-hWb];exact CT _ hLa rfl (s2.env t)
  refine wpIn_mono (hb ⟨Wb,β2,O1 i,pins1,true⟩ X i x rfl hx (some (w.heap.size+1)) (.inr ⟨hc2,rfl⟩) β2 a1 Wb sB) ?_;rintro e a2 Wc ⟨lx,env2,H2,β3,g1,s3,g2,g3⟩;cases lx with
  |exit id=>exact g2.elim
  |ret=>exact g2.elim
  |normal=>
  cases e<;>simp only[gM]at g1;obtain⟨β4,s4⟩:=g3 _ _ _ _ _ s3;obtain⟨mc,gC⟩:=mb.unbase (hpin1 i) s4.mem;have gc:=gb.trans gC;have keepB:∀k,K k\/(k<w.heap.size/\¬Ex X β H k)\/k=w.heap.size\/k=w.heap.size+1->¬Ex X β2 (O1 i) k:=λk hk he=>by
   rcases he with he|⟨id,h1,h2⟩
   ·exact keepA k hk (.inl he)
   ·have h3:=q3a id k (bK h1) h2;rcases hk with hk|⟨hk,hk'⟩|hk|hk
    ·rcases h3 with h3|h3
     ·have:=q4 k hk;omega
     ·exact h3.1 hk
    ·exact hk' (gb.sub k hk (.inr ⟨id,h1,h2⟩))
    ·rcases h3 with h3|h3<;>omega
    ·rcases h3 with h3|h3<;>omega
  have hAB:Wa.heap.size<=Wb.heap.size:=aE;have sameC:∀k,K k\/(k<w.heap.size/\¬Ex X β H k)\/k=w.heap.size\/k=w.heap.size+1->Wc.heap[k]? =Wb.heap[k]? :=λk hk=>gC.blk k (by have:=ltW k hk;have:=gA.size;omega) (keepB k hk);have hLc:=(sameC _ (.inr (.inr (.inr rfl)))).trans hLb;have hre:=run_endRound (P:=P) none hLc;refine⟨_,_,hre,rfl,?_⟩;obtain⟨Wd,hWd⟩:∃Wd,Wc.putObj (w.heap.size+1) (.loop {{rec .ready none with state:=.busy}with state:=if(none:Option Code).isNone then .ready else .done,pending:=none})=Wd:=⟨_,rfl⟩;have hszd:Wd.heap.size=Wc.heap.size:=by rw[<-hWd];simp
  have md:dR w0 X (O2 i) β4 Wd:=by rw[<-hWd];exact mc.still _ hLc rfl aE
  have gd:eT X H β w (O2 i) β4 Wd:=by rw[<-hWd];exact gc.still _ hLc rfl aE
  have Fe:∀k,k≠w.heap.size+1->Wd.heap[k]? =Wc.heap[k]? :=λk hk=>by rw[<-hWd];exact World.putObj_heap_other hk
  have hLd:Wd.heap[w.heap.size+1]? =some (.loop (rec .ready none)):=by
   rw[<-hWd,World.putObj_heap_same (Array.getElem?_eq_some_iff.1 hLc).1,hrec];rfl
  rw[hWd];have sz1:W.heap.size<=Wd.heap.size:=by have:=gA.size;have:=gC.size;omega
  have sameAll:∀k,K k\/(k<w.heap.size/\¬Ex X β H k)\/k=w.heap.size\/k=w.heap.size+1->Wd.heap[k]? =W.heap[k]? :=λk hk=>by
   by_cases e:k=w.heap.size+1
   ·subst e;rw[hLd,q1]
   ·rw[Fe k e,sameC k hk,sameB k e,sameA k hk]
  obtain⟨β5,me,he5,hl5⟩:=md.forget pins hnd hw0;rw[<-hO2 i hi]at me he5 hl5;refine⟨?_,sz1,λk hk=>sameAll k (hk.imp (λh=>h) λh=>?_)⟩
  ·rw[hJ];refine⟨β5,me,⟨gd.size,gd.blk,λk hk h=>?_,λid=>?_⟩,hLd,(sameAll _ (.inr (.inr (.inl rfl)))).trans q2,λid b h1 h2=>?_,λk hk=>⟨(q4 k hk).1,by have:=(q4 k hk).2;omega⟩⟩
   ·rcases h with h|⟨id,h1,h2⟩
    ·exact .inl h
    ·obtain⟨e1,e2⟩:=he5 id (hl5 id (bK h1));refine gd.sub k hk (.inr ⟨id,?_,e1▸h2⟩);rw[e2,pQ]at h1;exact h1
   ·by_cases hab:H id=.absent
    ·unfold bQ;rw[hab];trivial
    ·have hm:id∈pins:=hpin 0 id (by rw[hO];exact hab);obtain⟨e1,e2⟩:=he5 id hm;refine(gd.pass id).trans ?_;unfold bQ;rw[e1,e2];cases q:O2 i id with
     |absent=>trivial
     |dead=>rfl
     |box fz cs=>exact .inr ⟨⟨_,_,rfl⟩,rfl⟩
     |row fz size xs=>exact .inr ⟨⟨_,_,rfl,Nat.le_refl _⟩,rfl,λb cur e _ hc=>⟨cur,e,hc,rfl⟩⟩
     |map fz ks vs=>exact .inr ⟨⟨_,_,_,rfl⟩,rfl⟩
     |iter fz ks vs=>exact .inr ⟨⟨_,_,_,rfl⟩,rfl⟩
     |know x v=>trivial
   ·obtain⟨e1,e2⟩:=he5 id (hl5 id h1);rw[e2,eY]at h1;rw[e1]at h2;rcases(s4.fresh id b h1 h2).1 with h|⟨⟨j,_,h3,h4⟩,_⟩
    ·have h:Wb.heap.size<=b:=h;have:=gA.size;exact .inr ⟨λhk=>by have:=q4 b hk;omega,aE⟩
    ·exact q3a j b h3 h4
  ·by_cases h1:k=w.heap.size
   ·exact .inr (.inl h1)
   ·by_cases h2:k=w.heap.size+1
    ·exact .inr (.inr h2)
    ·exact .inl ⟨aE,h.2⟩
 ·rintro e W2 ⟨⟨v,rfl⟩,K,hj⟩;rw[hJ]at hj;obtain⟨β',m,gg,q1,q2,q3,q4⟩:=hj;refine⟨none,_,by have:=run_endLoop (P:=P) q1 (by rw[hrec];simp);rw[hrec]at this;exact this,?_⟩;have hl0:w0.w.heap.size<=w.heap.size:=s.ext.size;obtain⟨W3,hW3⟩:∃W3,W2.putObj (w.heap.size+1) (.loop {rec .ready none with state:=.exhausted})=W3:=⟨_,rfl⟩;have m3:dR w0 X (O items.length) β' W3:=by rw[<-hW3];exact m.still _ q1 rfl aE
  have g3:eT X H β w (O items.length) β' W3:=by rw[<-hW3];exact gg.still _ q1 rfl aE
  have hD3:W3.heap[w.heap.size]? =some (.deferred (some [])):=by rw[<-hW3];exact(World.putObj_heap_other aE).trans q2
  rw[hrec]at hW3;simp only at hW3|-;rw[hW3];refine⟨.normal,env,_,β',trivial,⟨?_,s.size,m3.ext,m3.xold,m3.fresh,m3.inj,λt=>g3.R (s.env t),m3.obj,m3.pin⟩,hq⟩;obtain⟨Ds,_,d1,d2,d3⟩:=g3.marks s.defers;obtain⟨Ds',_,d1',d2',d3'⟩:=s.defers;have hDs:∀D∈Ds,D<w.heap.size:=λD hD=>by
   have e:Ds=Ds':=RA (d2.symm.trans d2');subst e;exact(Array.getElem?_eq_some_iff.1 (d3' D hD).2.2).1
  refine⟨w.heap.size::Ds,λh=>(by rw[hfl]at h;cases h),List.nodup_cons.2 ⟨λh=>by have:=hDs _ h;omega,d1⟩,by rw[List.map_cons,<-d2];rfl,λD hD=>?_⟩;rcases List.mem_cons.1 hD with rfl|hD
  ·refine⟨hl0,λhe=>?_,hD3⟩;rcases he with he|⟨id,h1,h2⟩
   ·have:=(s.xold.1 _ he).1;omega
   ·have h3:=q3 id _ (bK h1) h2;rcases h3 with h3|h3<;>omega
  ·exact d3 D hD
end
end
section
open Go.RowKit
section
variable{P:Program} {ops:Array Oper} {Q:Exit->Act->World->Prop}
theorem UJ{o:Oper}{a:Act}{w:World}{K K':Act->World->Prop}{Q Q':Exit->Act->World->Prop}(r:Option Nat)(hd:nN o=true)(hk:∀a w,K a w->K' a w)(hq:∀e a w,Q e a w->e=.normal\/Q' e a w)(h:o.wp P a w K Q):o.wpIn (RF r) 0 P a w K' Q':=by
 refine⟨λ_ _=>trivial,?_⟩;rw[Oper.semAt_eq _ _ _ (λc e=>by simp[nN,e]at hd)];unfold Oper.wp at h;revert h;cases(execOp a.eval o).run P w with
 |ok x w'=>
  cases x with
  |value v=>exact hk _ _
  |skip=>exact hk _ _
  |defer d=>exact hk _ _
  |enter f args=>exact λh=>⟨λh=>(by cases h),callsIn_wide.2 ((h:Calls P f args w' _).mono λe w' he=>by
    cases e
    ·exact hk _ _ he
    ·exact(hq _ _ _ he).resolve_left aM
    ·obtain⟨a,w,q⟩:=he;exact⟨a,w,(hq _ _ _ q).resolve_left aM⟩)⟩
  |row row args=>exact λh=>⟨λh=>(by cases h),(Ge (h:Rows P row args w' _)).mono λv w'=>hk _ _⟩
  |_=>exact λh=>h.elim
 |halt x w'=>cases x<;>first|exact λh=>(hq _ _ _ h).resolve_left aM|exact λh=>h.elim
theorem yO{K:Act->World->Prop}{rest:List Oper}(hK:∀a w,K a w->wpListIn (RF none) 0 P ops Q rest a w):∀(pre:List Oper) (a:Act) (w:World),(∀o∈pre,nN o=true)->wpList P ops (λe a w=>e=.normal/\K a w) pre a w->wpListIn (RF none) 0 P ops Q (pre++rest) a w
 |[],_,_,_,h=>hK _ _ h.2
 |o::pre,a,w,hd,h=>by
  have ih:=yO hK pre;have hd':∀o∈pre,nN o=true:=λo ho=>hd o (List.mem_cons_of_mem _ ho);rw[List.cons_append];unfold wpList at h;unfold wpListIn;split
  ·rename_i hw;rw[if_pos hw]at h;rcases h with h|⟨_,a2,w2,h2,_⟩
   ·exact UJ none (hd o (List.mem_cons_self ..)) (λa w=>ih a w hd') (λe a w q=>.inl q.1) h
   ·cases h2
  ·rename_i hw;rw[if_neg hw]at h;exact⟨λ_ _=>trivial,ih _ _ hd' h⟩
end
section
variable{N:Nat} {w0:cX} {X:Nat->Prop} {env:eD} {H:dM} {β:Nat->Option Nat} {a:Act} {w w':World}
theorem mC.effect{X':Nat->Prop}(s:mC N w0 X env H β a w)(pins:List Nat)(hp:∀id,H id≠ .absent->id∈pins)(hd:a.defers=[])(hs:w.heap.size<=w'.heap.size)
 (hk:∀k,k<w.heap.size->¬X k->w'.heap[k]? =w.heap[k]?)(hX:∀k,k<w.heap.size->X' k->X k)(hX1:∀k,X' k->k<w'.heap.size)(hG:yI w' X'):mC N ⟨w',β,H,pins,true⟩ X' env H β a w':=by
 have hl:∀{id},(H id).live=true->id∈pins:=λ{id} h=>hp id λe=>by rw[e]at h;cases h
 have hob:∀id b,(H id).live=true->β id=some b->¬X b/\b<w.heap.size:=λid b h1 h2=>⟨λhx=>by
  have h3:=s.xold.1 b hx;rcases(s.fresh id b h1 h2).1 with h|h
  ·omega
  ·exact h3.2 h.1,(s.fresh id b h1 h2).2⟩
 have same:∀id b,(H id).live=true->β id=some b->w'.heap[b]? =w.heap[b]? :=λid b h1 h2=>hk b (hob id b h1 h2).2 (hob id b h1 h2).1;have blk:∀k,k<w.heap.size->¬Ex X β H k->w'.heap[k]? =w.heap[k]? :=λk h1 h2=>hk k h1 λh=>h2 (.inl h);have sub:∀k,k<w.heap.size->Ex X' β H k->Ex X β H k:=λk h1 h2=>h2.imp (hX k h1) λh=>h;have hD:∀{d:DV} {v:Value},RD w (Ex X β H) d v->RD w' (Ex X' β H) d v:=λh=>h.step blk hs sub;have hP:∀id,bQ w β H w' β H id:=λid=>by
  unfold bQ;cases q:H id with
  |absent=>trivial
  |dead=>rfl
  |box fz cs=>exact .inr ⟨⟨_,_,rfl⟩,rfl⟩
  |row fz size xs=>exact .inr ⟨⟨_,_,rfl,Nat.le_refl _⟩,rfl,λb cur e hb hc=>⟨cur,e,(same id b (by rw[q];rfl) hb).trans hc,rfl⟩⟩
  |map fz ks vs=>exact .inr ⟨⟨_,_,_,rfl⟩,rfl⟩
  |iter fz ks vs=>exact .inr ⟨⟨_,_,_,rfl⟩,rfl⟩
  |know x v=>trivial
 have hR:∀{l:LV} {v:Value},Eng.R w (Ex X β H) β H l v->Eng.R w' (Ex X' β H) β H l v:=λh=>h.step (λ_ _=>hD) hP;have hnm:∀k,X' k->¬cX.mine ⟨w',β,H,pins,true⟩ k:=λk hx ⟨id,_,h1,h2⟩=>(hob id k h1 h2).1 (hX k (hob id k h1 h2).2 hx);have hgl:=s.mem.globL;refine⟨by rw[hd];exact FS.nil,s.size,⟨rfl,rfl,rfl,Nat.le_refl _,λ_ _ _=>rfl,Nat.le_refl _⟩,⟨λk hx=>⟨hX1 k hx,hnm k hx⟩,?_⟩,λid b h1 h2=>⟨.inr ⟨⟨id,hl h1,h1,h2⟩,λhm=>⟨id,hl h1,hm,h2⟩⟩,?_⟩,s.inj,λt=>hR (s.env t),λid=>?_,λid _=>bQ.refl id⟩
 ·refine hgl.step (λk h1 h2=>hk k h1 λh=>h2 (.inl h)) hs λk h1 h2=>h2.imp (hX k h1) ?_;rintro⟨id,_,h3,h4⟩;exact⟨id,h3,h4⟩
 ·exact Nat.lt_of_lt_of_le (hob id b h1 h2).2 hs
 ·have ho:=s.obj id;unfold dO at ho|-;cases q:H id with
  |absent=>trivial
  |dead=>trivial
  |box fz cs=>
   rw[q]at ho;obtain⟨b,e,us,z1,z2,z3,z4,z5⟩:=ho;exact⟨b,e,us,z1,(same id b (by rw[q];rfl) z1).trans z2,z3,z4,λi c v hc hv=>hR (z5 i c v hc hv)⟩
  |row fz size xs=>
   rw[q]at ho;obtain⟨z1,z2,z3⟩:=ho;refine⟨z1,z2,z3.imp (λh=>h) ?_⟩;rintro⟨b,e,cur,y1,y2,y3,y4⟩;exact⟨b,e,cur,y1,(same id b (by rw[q];rfl) y1).trans y2,y3,λi d v hd hv=>⟨(y4 i d v hd hv).1,hD (y4 i d v hd hv).2⟩⟩
  |map fz ks vs=>
   rw[q]at ho;obtain⟨b,arr,clock,z1,z2,z3,z4,z5,z6,z7⟩:=ho;exact⟨b,arr,clock,z1,(same id b (by rw[q];rfl) z1).trans z2,z3,z4,z5,λi d e hd he=>hD (z6 i d e hd he),λi d e hd he=>hD (z7 i d e hd he)⟩
  |iter fz ks vs=>
   rw[q]at ho;obtain⟨b,bm,arr,clock,seen,last,z1,z2,z3,z4,z5,z6,z7,z8,z9,z10,z11⟩:=ho;exact⟨b,bm,arr,clock,seen,last,z1,(same id b (by rw[q];rfl) z1).trans z2,λh=>z3 (sub bm z4 h),Nat.lt_of_lt_of_le z4 hs,(blk bm z4 z3).trans z5,z6,z7,z8,z9,λi d e hd he=>hD (z10 i d e hd he),λi d e hd he=>hD (z11 i d e hd he)⟩
  |know x v=>
   rw[q]at ho;exact hR ho
end
structure Pw(P:Program) where
 T:(Nat->Prop)->Nat->World->Prop
 S:Nat->Prop
 grow:∀K i W W',T K i W->zN W.heap.size W W'->T (λk=>K k\/W.heap.size<=k/\k<W'.heap.size) i W'
 low:∀K i W k,T K i W->K k->k<W.heap.size
 same:∀K i W K' i' W' k,T K i W->T K' i' W'->S k->W'.heap[k]? =W.heap[k]?
 glob:∀K i W,T K i W->yI W λk=>k<W.heap.size/\¬(K k\/S k)
def Pw.X{P:Program}(F:Pw P)(K:Nat->Prop)(W:World)(k:Nat):Prop:=k<W.heap.size/\¬(K k\/F.S k)
def CU{P:Program}(F:Pw P)(K:Nat->Prop)(i n:Nat)(r:Value)(W:World)(e:Ending)(W':World):Prop:=
 e=.returned r/\∃K',F.T K' (i+n) W'/\W.heap.size<=W'.heap.size/\∀k,K k->K' k/\W'.heap[k]? =W.heap[k]?
def oQ{P:Program}(F:Pw P)(u:DV)(args:List DV)(i n:Nat)(r:Value):Prop:=
 ∀K W v vs,F.T K i W->RD W (F.X K W) u v->Mm W (F.X K W) args vs->
  (∃f lb,v=.func (.func f) #[] lb/\pN P f/\Calls P f (vs.toArray++lb) W (CU F K i n r W))\/
  (∃l,v=.func (.yield l) #[] #[]/\YieldAt Fence.wide 0 P l vs.toArray W (CU F K i n r W))
def BZ{P:Program}(F:Pw P)(N:Nat)(pins:List Nat)(Q:LX->eD->dM->Nat->Prop)(K:Nat->Prop)(W:World)(e:Exit)(a':Act)(w':World):Prop:=
 ∃x env' H' i' w1 K' β',gM e x/\w1.flat=true/\w1.pins=pins/\(∀k,¬w1.own k)/\F.T K' i' w1.w/\(∀k,K k->K' k/\w1.w.heap[k]? =W.heap[k]?)/\W.heap.size<=w1.w.heap.size/\mC N w1 (F.X K' w1.w) env' H' β' a' w'/\Q x env' H' i'
def FB{P:Program}(F:Pw P)(N:Nat)(pins:List Nat)(c:Code)(Q:LX->eD->dM->Nat->Prop)(env:eD)(H:dM)(i:Nat):Prop:=
 mY c=true->∀w0 K β a w,w0.flat=true->w0.pins=pins->(∀k,¬w0.own k)->F.T K i w0.w->mC N w0 (F.X K w0.w) env H β a w->c.wpIn (RF none) 0 P (BZ F N pins Q K w0.w) a w
def gN(Kn:eD->dM->Nat->Prop)(Q:LX->eD->dM->Nat->Prop):LX->eD->dM->Nat->Prop
 | .normal,env,H,i=>Kn env H i
 |e,env,H,i=>Q e env H i
def CV(id:Nat)(Q:LX->eD->dM->Nat->Prop):LX->eD->dM->Nat->Prop
 | .exit j,env,H,i=>if j=id then Q .normal env H i else Q (.exit j) env H i
 |e,env,H,i=>Q e env H i
section
variable{P:Program} {T:TypeId->fE} {F:Pw P} {N:Nat} {pins:List Nat} {Q Q':LX->eD->dM->Nat->Prop} {env:eD} {H:dM} {i:Nat}
theorem BZ.mono{K:Nat->Prop}{W:World}{e:Exit}{a:Act}{w:World}(h:BZ F N pins Q K W e a w)(hq:∀x env H i,Q x env H i->Q' x env H i):BZ F N pins Q' K W e a w:=
 let⟨x,env',H',i',w1,K',β',h1,h2,h3,h4,h5,h6,h7,h8,h9⟩:=h
 ⟨x,env',H',i',w1,K',β',h1,h2,h3,h4,h5,h6,h7,h8,hq _ _ _ _ h9⟩
theorem BZ.later{K K1:Nat->Prop}{W W1:World}{e:Exit}{a:Act}{w:World}(h:BZ F N pins Q K1 W1 e a w)(hk:∀k,K k->K1 k/\W1.heap[k]? =W.heap[k]?)(hs:W.heap.size<=W1.heap.size):BZ F N pins Q K W e a w:=
 let⟨x,env',H',i',w1,K',β',h1,h2,h3,h4,h5,h6,h7,h8,h9⟩:=h
 ⟨x,env',H',i',w1,K',β',h1,h2,h3,h4,h5,λk hK=>let q:=hk k hK;⟨(h6 k q.1).1,(h6 k q.1).2.trans q.2⟩,Nat.le_trans hs h7,h8,h9⟩
theorem DU{c:Code}(h:∀w0 X,w0.pins=pins->eW P N w0 X c (λx env H=>Q x env H i) env H):FB F N pins c Q env H i:=
 λhc w0 K β a w h1 h2 h3 h4 s=>wpIn_mono (h w0 _ h2 none (.inr ⟨hc,h1⟩) β a w s) λ_ _ _ ⟨x,env',H',β',q1,q2,q3⟩=>
  ⟨x,env',H',i,w0,K,β',q1,h1,h2,h3,h4,λk hk=>⟨hk,rfl⟩,Nat.le_refl _,q2,q3⟩
theorem vK{c:Code}{env':eD}{H':dM}(hw:∀w0:cX,w0.pins=pins->iH w0 env H env' H')(h:FB F N pins c Q env' H' i):FB F N pins c Q env H i:=
 λhc w0 K β a w h1 h2 h3 h4 s=>let⟨β',s'⟩:=hw w0 h2 _ _ _ _ _ s;h hc w0 K β' a w h1 h2 h3 h4 s'
theorem FB.skip(h:Q .normal env H i):FB F N pins .skip Q env H i:=DU λ_ _ _=>eW.skip h
theorem FB.ret(h:Q .ret env H i):FB F N pins .ret Q env H i:=DU λ_ _ _=>eW.ret h
theorem FB.exit{id:Nat}(h:Q (.exit id) env H i):FB F N pins (.exit id) Q env H i:=DU λ_ _ _=>eW.exit h
theorem FB.seq{x y:Code}(h:FB F N pins x (gN (FB F N pins y Q) Q) env H i):FB F N pins (.seq x y) Q env H i:=by
 intro hc w0 K β a w h1 h2 h3 h4 s;simp only[mY,Bool.and_eq_true]at hc;refine wpIn_seq (wpIn_mono (h hc.1 w0 K β a w h1 h2 h3 h4 s) ?_);rintro e a' w' ⟨lx,env',H',i',w1,K',β',q1,q2,q3,q4,q5,q6,q7,q8,q9⟩;cases e<;>cases lx<;>simp only[gM]at q1
 ·exact wpIn_mono (q9 hc.2 w1 K' β' a' w' q2 q3 q4 q5 q8) λ_ _ _ q=>q.later q6 q7
 ·subst q1;exact⟨.exit _,env',H',i',w1,K',β',rfl,q2,q3,q4,q5,q6,q7,q8,q9⟩
 ·exact⟨.ret,env',H',i',w1,K',β',trivial,q2,q3,q4,q5,q6,q7,q8,q9⟩
theorem FB.block{id:Nat}{c:Code}(h:FB F N pins c (CV id Q) env H i):FB F N pins (.block id c) Q env H i:=by
 intro hc w0 K β a w h1 h2 h3 h4 s;simp only[mY]at hc;refine wpIn_block (wpIn_mono (h hc w0 K β a w h1 h2 h3 h4 s) ?_);rintro e a' w' ⟨lx,env',H',i',w1,K',β',q1,q2,q3,q4,q5,q6,q7,q8,q9⟩;cases e<;>cases lx<;>simp only[gM]at q1
 ·exact⟨.normal,env',H',i',w1,K',β',trivial,q2,q3,q4,q5,q6,q7,q8,q9⟩
 ·subst q1;simp only[Exit.inBlock,CV]at q9|-;split at q9
  ·rename_i he;rw[if_pos he];exact⟨.normal,env',H',i',w1,K',β',trivial,q2,q3,q4,q5,q6,q7,q8,q9⟩
  ·rename_i he;rw[if_neg he];exact⟨.exit _,env',H',i',w1,K',β',rfl,q2,q3,q4,q5,q6,q7,q8,q9⟩
 ·exact⟨.ret,env',H',i',w1,K',β',trivial,q2,q3,q4,q5,q6,q7,q8,q9⟩
theorem FB.cond{c:Operand}{x y:Code}{b:Bool}(hb:kH env c=.d (.bool b))(h1:b=true->FB F N pins x Q env H i)(h2:b=false->FB F N pins y Q env H i):FB F N pins (.cond c x y) Q env H i:=by
 intro hc w0 K β a w g1 g2 g3 g4 s;simp only[mY,Bool.and_eq_true]at hc;have hv:=s.get c;rw[hb]at hv;refine wpIn_cond hv.bool ?_;cases b
 ·exact h2 rfl hc.2 w0 K β a w g1 g2 g3 g4 s
 ·exact h1 rfl hc.1 w0 K β a w g1 g2 g3 g4 s
theorem FB.loop{c:Code}{ι:Type}(E:ι->eD)(O:ι->dM)(ix:ι->Nat)(I:ι->Prop)(μ:ι->Nat)(j:ι)(he:∀w0:cX,w0.pins=pins->iH w0 env H (E j) (O j))(hj:ix j=i)(h0:I j)
 (round:∀j,I j->FB F N pins c (gN (λenv' H' i'=>∃j',(∀w0:cX,w0.pins=pins->iH w0 env' H' (E j') (O j'))/\i'=ix j'/\I j'/\μ j'<μ j) Q) (E j) (O j) (ix j)):FB F N pins (.loop c) Q env H i:=by
 refine vK he ?_;subst hj;intro hc w0 K β a w g1 g2 g3 g4 s;simp only[mY]at hc;refine uZ (λn a w=>∃j w1 K1 β,μ j=n/\I j/\w1.flat=true/\w1.pins=pins/\(∀k,¬w1.own k)/\F.T K1 (ix j) w1.w/\mC N w1 (F.X K1 w1.w) (E j) (O j) β a w/\(∀k,K k->K1 k/\w1.w.heap[k]? =w0.w.heap[k]?)/\w0.w.heap.size<=w1.w.heap.size) (μ j)
  ⟨j,w0,K,β,rfl,h0,g1,g2,g3,g4,s,λk hk=>⟨hk,rfl⟩,Nat.le_refl _⟩ ?_
 rintro n a1 w1 ⟨j1,b1,K1,β1,rfl,hI,t1,t2,t3,t4,s1,t5,t6⟩;refine wpIn_mono (round j1 hI hc b1 K1 β1 a1 w1 t1 t2 t3 t4 s1) ?_;rintro e a2 w2 ⟨lx,env',H',i',b2,K2,β2,q1,q2,q3,q4,q5,q6,q7,q8,q9⟩;have q6':∀k,K k->K2 k/\b2.w.heap[k]? =w0.w.heap[k]? :=λk hk=>let q:=t5 k hk;⟨(q6 k q.1).1,(q6 k q.1).2.trans q.2⟩;have q7':=Nat.le_trans t6 q7;cases e<;>cases lx<;>simp only[gM]at q1
 ·obtain⟨j2,r1,r2,r3,r4⟩:=q9;obtain⟨β3,s3⟩:=r1 b2 q3 _ _ _ _ _ q8;exact⟨μ j2,r4,j2,b2,K2,β3,rfl,r3,q2,q3,q4,by rw[<-r2];exact q5,s3,q6',q7'⟩
 ·subst q1;exact⟨.exit _,env',H',i',b2,K2,β2,rfl,q2,q3,q4,q5,q6',q7',q8,q9⟩
 ·exact⟨.ret,env',H',i',b2,K2,β2,trivial,q2,q3,q4,q5,q6',q7',q8,q9⟩
theorem FB.len{c:Code}{t:Nat}{xs:List DV}(he:env t=.d (.sl xs))(h:xs.length<=9223372036854775807->FB F N pins c Q env H i):FB F N pins c Q env H i:=by
 intro hc w0 K β a w g1 g2 g3 g4 s;have hv:=s.env t;rw[he]at hv;cases hv with
 |d _ _ hv=>
  obtain⟨b,c',_,h1,h2⟩:=hv.sl_len;exact h (by unfold maxLen at h2;omega) hc w0 K β a w g1 g2 g3 g4 s
theorem jU(hT:fP P T)(hW:BS T){id:Nat}{l:List Oper}(orc:Nat->Option kS)(h:(eX P T N l orc env H).ok/\Q .normal (eX P T N l orc env H).env (eX P T N l orc env H).H i)
 (hdet:∀d,uX (orc d):=by intro d;first|exact⟨rfl,λ_ h=>h⟩|(split<;>exact⟨rfl,λ_ h=>h⟩)):FB F N pins (.region id l.toArray false) Q env H i:=DU λ_ _ _=>tC hT hW orc hdet h
theorem mC.nodefer{w0:cX}{X:Nat->Prop}{β:Nat->Option Nat}{a:Act}{w:World}(s:mC N w0 X env H β a w)(h:w0.flat=true):a.defers=[]:=by
 obtain⟨Ds,h0,_,h2,_⟩:=s.defers;rw[h2,h0 h];rfl
theorem TA.bel{w0:cX}{w:World}(h:TA w0 w)(ho:∀k,¬w0.own k):zN w0.w.heap.size w0.w w:=⟨h.os,h.tape,h.output,h.size,λk hk=>h.block k hk (ho k),h.drawn⟩
theorem kU{f:FuncId}{fn:Func}{c:Code}{caps args:List DV}{n m t:Nat}{r:Value}{d:DV}(hf:P.funcs[f]? =some fn)(hname:(fn.name== "runtime.NumGoroutine")=false)(hb:fn.body=some c)(hn:fn.ntmps=n)(hargs:(args++caps).length<=n)(hres:fn.results= #[.tmp t])
 (hr:∀w E v,RD w E d v->v=r)(hc:mY c=true)(h:FB F n pins c (λx env _ i'=>(match x with| .exit _=>False|_=>True)/\i'=i+m/\env t=.d d) (gY (args++caps)) (aL []) i):oQ F (.fn f caps) args i m r:=by
 intro K W v vs ht hv hvs;cases hv with
 |fn _ _ us hl hu=>
 refine .inl ⟨f,us.toArray,rfl,⟨fn,hf,hname,by rw[hb];rfl⟩,?_⟩;have hall:(vs.toArray++us.toArray)=(vs++us).toArray:=aM;rw[hall];have hvl:=hvs.1;have s0:mC n ⟨W,λ_=>none,λ_=>.absent,pins,true⟩ (F.X K W) (gY (args++caps)) (aL []) (λ_=>none) ⟨(vs++us).toArray++Array.replicate (fn.ntmps-(vs++us).toArray.size) undef,[]⟩ W:=by
  refine⟨FS.nil,?_,⟨rfl,rfl,rfl,Nat.le_refl _,λ_ _ _=>rfl,Nat.le_refl _⟩,⟨λk hk=>⟨hk.1,λ⟨id,_,h1,_⟩=>by cases h1⟩,(F.glob K i W ht).anti λk hk=>hk.resolve_right λ⟨id,_,h1,_⟩=>by cases h1⟩,λid b hl _=>by simp[aL,fI,bB.live]at hl,λi j b hi _=>by simp[aL,fI,bB.live]at hi,λt=>?_,λid=>?_,λid _=>?_⟩
  ·simp at hargs|-;omega
  ·rw[qW];cases q:(args++caps)[t]? with
   |none=>exact .junk _
   |some x=>
    have hlen:(vs++us).length=(args++caps).length:=(by simp[hvl,hl]);have htl:t<(vs++us).length:=by rw[hlen];exact(List.getElem?_eq_some_iff.1 q).1
    have key:∀(ws:List Value) (h:t<ws.length),(ws.toArray++Array.replicate (fn.ntmps-ws.toArray.size) undef).getD t undef=ws[t]:=λws h=>by
     simp[Array.getD_eq_getD_getElem?,Array.getElem?_append_left,h]
    simp only[key _ htl];refine .d _ _ (RD.anti (E:=F.X K W) (λk hk=>?_) ?_)
    ·rcases hk with hk|⟨id,h1,_⟩
     ·exact hk
     ·simp[aL,fI,bB.mut]at h1
    ·have hu2:=List.getElem?_eq_getElem htl;by_cases ht:t<args.length
     ·rw[List.getElem?_append_left ht]at q;rw[List.getElem?_append_left aE]at hu2;exact hvs.2 t x _ q hu2
     ·rw[List.getElem?_append_right aE]at q;rw[List.getElem?_append_right aE,hvl]at hu2;exact hu _ x _ q hu2
  ·simp[dO,aL,fI]
  ·simp[bQ]
 refine(callsIn_wide (n:=0)).1 (callsIn_of_wp hf hb trivial (wpIn_mono (h hc _ K _ _ _ rfl rfl (λk ⟨id,_,h1,_⟩=>by cases h1) ht s0) ?_) rfl);rintro e a' w' ⟨x,env',H',i',w1,K',β',q1,q2,q3,q4,q5,q6,q7,q8,q9,q10,q11⟩;subst q10;have hbel:=q8.ext.bel q4;have hv:=q8.env t;rw[q11]at hv;have hvr:a'.tmps.getD t undef=r:=by cases hv with|d _ _ h=>exact hr _ _ _ h
 have fin:bodyPost P fn (CU F K i m r W) .ret a' w':=by
  refine⟨q8.nodefer q2,r,by rw[results_tmp hres,hvr],rfl,_,F.grow K' _ _ _ q5 hbel,Nat.le_trans q7 hbel.size,λk hk=>⟨.inl (q6 k hk).1,?_⟩⟩;exact(hbel.block k (Nat.lt_of_lt_of_le (F.low K i W k ht hk) q7)).trans (q6 k hk).2
 cases e<;>cases x<;>simp only[gM]at q1
 ·exact fin
 ·exact q9.elim
 ·exact fin
theorem XJ(hT:fP P T)(hW:BS T){id:Nat}{pre post:List Oper}{o:Oper}{dst:Nat}{callee:Operand}{args:Array Operand}{ts:Array TypeId}(orc:Nat->Option kS)(hdet:∀d,uX (orc d))
 (ho:o.op=.call {callee:=.value callee,args:=args,argTypes:=ts})(hd:o.dst=some dst)(hg:o.guard=none)(hN:dst<N){n:Nat}{rd u:DV}{r:Value}{az:List DV}(hrd:∀w E,RD w E rd r){s1 s2:uC}
 (hs1:pre.foldl (fC P T N (cK N (pre++o::post)) orc) ⟨env,H,True⟩=s1)(h1:s1.ok)(hm:∀id,(s1.H id).mut=false)(hp:∀id,s1.H id≠ .absent->id∈pins)
 (hu:close s1.H 8 (kH s1.env callee)=some u)(has:cM (args.toList.map λx=>close s1.H 8 (kH s1.env x))=some az)(hcall:oQ F u az i n r)
 (hs2:post.foldl (fC P T N (cK N (pre++o::post)) orc) ⟨cE s1.env dst (.d rd),s1.H,True⟩=s2)(h2:s2.ok)(hq:Q .normal s2.env s2.H (i+n)):FB F N pins (.region id (pre++o::post).toArray false) Q env H i:=by
 intro hc w0 K β a w f1 f2 f3 ht s;have hnd:∀o'∈pre++o::post,nN o'=true:=by
  simp only[mY]at hc;rw[Array.all_eq_true]at hc;intro o' ho';obtain⟨j,hj,rfl⟩:=List.getElem_of_mem ho';have:=hc j (by simpa using hj);simpa using this
 refine wpIn_region_list ?_;show wpListIn _ _ _ _ _ (pre++o::post) _ _;refine yO (K:=λa1 w1=>∃β1,mC N w0 (F.X K w0.w) s1.env s1.H β1 a1 w1) ?_ pre a w (λo' h=>hnd o' (List.mem_append_left _ h)) (pS hT hW (mZ N _) pre ⟨env,H,True⟩ β a w (λo _=>hdet _) s (by rw[hs1];exact h1) λa' w' β' s'=>⟨rfl,β',by rw[hs1]at s';exact s'⟩);rintro a1 w1 ⟨β1,sa⟩;have bel:=sa.ext.bel f3;have ht1:=F.grow K i w0.w w1 ht bel;obtain⟨K1,hK1⟩:∃K1:Nat->Prop,K1=λk=>K k\/w0.w.heap.size<=k/\k<w1.heap.size:=⟨_,rfl⟩;rw[<-hK1]at ht1;have hXE:∀k,F.X K1 w1 k->Ex (F.X K w0.w) β1 s1.H k:=λk hk=>by
  refine .inl ⟨?_,λh=>hk.2 ?_⟩
  ·refine Nat.lt_of_not_le λh=>hk.2 (.inl ?_);rw[hK1];exact .inr ⟨h,hk.1⟩
  ·rcases h with h|h
   ·left;rw[hK1];exact .inl h
   ·exact .inr h
 have clo:∀{c:LV} {d:DV} {v:Value},close s1.H 8 c=some d->Eng.R w1 (Ex (F.X K w0.w) β1 s1.H) β1 s1.H c v->RD w1 (F.X K1 w1) d v:=λ{c d v} hcl hr=>
  (nV sa.mem.obj (λ_ _ h=>h) 8 c d v hcl (λid hid b hb=>UG sa.mem (mW 8 c d hcl id hid) (hm id) hb) hr).anti hXE
 have hcv:=clo hu (sa.get callee);have hargs:Mm w1 (F.X K1 w1) az (args.toList.map a1.eval):=by
  obtain⟨e1,e2⟩:=kZ has;refine⟨by simpa using e1.symm,λj c v hc hv=>?_⟩;obtain⟨x,hx,rfl⟩:=eG hv;exact clo (e2 j x c hx hc) (sa.get x)
 have rest:∀v w2,CU F K1 i n r w1 (.returned v) w2->wpListIn (RF none) 0 P (pre++o::post).toArray (BZ F N pins Q K w0.w) post (a1.put o.dst v) w2:=by
  rintro v w2 ⟨e,K2,t1,t2,t3⟩;injection e with e;subst e
  have same:∀k,k<w1.heap.size->¬F.X K w0.w k->w2.heap[k]? =w1.heap[k]? :=λk hk hn=>by
   by_cases h0:k<w0.w.heap.size
   ·have:K k\/F.S k:=Classical.byContradiction λh=>hn ⟨h0,h⟩;rcases this with h|h
    ·exact(t3 k (by rw[hK1];exact .inl h)).2
    ·exact F.same _ _ _ _ _ _ k ht1 t1 h
   ·exact(t3 k (by rw[hK1];exact .inr ⟨aE,hk⟩)).2
  have sb:=sa.effect (X':=F.X K2 w2) pins hp (sa.nodefer f1) t2 same (λk hk hx=>⟨Nat.lt_of_not_le λh=>hx.2 (.inl (t3 k (by rw[hK1];exact .inr ⟨h,hk⟩)).1),λh=>hx.2 (by
   rcases h with h|h
   ·exact .inl (t3 k (by rw[hK1];exact .inl h)).1
   ·exact .inr h)⟩) (λk hx=>hx.1) (F.glob _ _ _ t1)
  have sc:=sb.put sb.mem eT.refl (.d rd v (hrd _ _)) (dst:=o.dst) (by rw[hd];exact hN);rw[hd]at sc|-;have:=yO (P:=P) (ops:=(pre++o::post).toArray) (Q:=BZ F N pins Q K w0.w) (rest:=[]) (K:=λa w=>BZ F N pins Q K w0.w .normal a w) (λ_ _ h=>h) post _ w2 (λo' h=>hnd o' (List.mem_append_right _ (List.mem_cons_of_mem _ h)))
   (pS hT hW (mZ N (pre++o::post)) post ⟨cE s1.env dst (.d rd),s1.H,True⟩ β1 _ w2 (λo _=>hdet _) sc (by rw[hs2];exact h2) λa' w' β' s'=>by
     rw[hs2]at s';refine⟨rfl,.normal,s2.env,s2.H,i+n,_,K2,β',trivial,rfl,rfl,?_,t1,λk hk=>?_,Nat.le_trans bel.size t2,s',hq⟩
     ·rintro k ⟨id,_,h1,_⟩;rw[hm id]at h1;cases h1
     ·have h1:=t3 k (by rw[hK1];exact .inl hk);exact⟨h1.1,h1.2.trans (bel.block k (F.low K i _ k ht hk))⟩)
  rwa[List.append_nil]at this
 unfold wpListIn;rw[if_pos (by simp[Region.wanted,hg])];refine⟨λ_ _=>trivial,?_⟩;rw[Oper.semAt_eq _ _ _ (λc e=>by rw[ho]at e;cases e)];rcases hcall K1 w1 _ _ ht1 hcv hargs with⟨f,lb,hfv,⟨fn,hfn,hname,hbody⟩,hC⟩|⟨l,hfv,fn,tm,as',bo,hy,hR⟩
 ·have hb:fn.body.isNone=false:=by cases q:fn.body<;>simp_all
  have hrun:(execOp a1.eval o).run P w1=.ok (.enter f ((args.toList.map a1.eval).toArray++lb)) w1:=by
   have e1: #[]++args.map a1.eval++lb=(args.toList.map a1.eval).toArray++lb:=by
    congr 1;apply Array.ext';simp
   simp only[execOp,ho,resolve,hfv,Deferred.ofValue,Sem.run_bind,Sem.run_pure,Result.andThen_ok,invoke,callFunc,run_program,hfn,hname,Bool.false_eq_true,if_false,hb];rw[e1]
  rw[hrun];refine⟨λh=>(by cases h),callsIn_wide.2 (hC.mono λe w2 he=>?_)⟩;cases e with
  |returned v=>exact rest v w2 he
  |panicked ch=>exact absurd he.1 aM
  |outgrown=>exact absurd he.1 aM
 ·have hrun:(execOp a1.eval o).run P w1=.ok (.round l fn tm as' bo) w1:=by
   have e1: #[]++args.map a1.eval=(args.toList.map a1.eval).toArray:=by
    apply Array.ext';simp
   simp only[execOp,ho,resolve,hfv,Deferred.ofValue,Sem.run_bind,Sem.run_pure,Result.andThen_ok,invoke];rw[e1];exact hy
  rw[hrun];refine⟨λh=>(by cases h),hR.mono λe w2 he=>?_⟩;cases e with
  |returned v=>exact rest v w2 he
  |panicked ch=>exact absurd he.1 aM
  |outgrown=>exact absurd he.1 aM
def yP(P:Program)(T:TypeId->fE)(N:Nat)(l l':List Oper)(orc:Nat->Option kS)(env:eD)(H:dM):uC:=l'.foldl (fC P T N (cK N l) orc) ⟨env,H,True⟩
theorem AX{l:List (Nat×bB)}(h:l.all (λp=> !p.2.mut)=true)(id:Nat):(aL l id).mut=false:=by
 unfold aL;induction l with
 |nil=>rfl
 |cons p r ih=>
  simp only[List.all_cons,Bool.and_eq_true,Bool.not_eq_true']at h;unfold fI;split
  ·exact h.1
  ·exact ih h.2
theorem nX{l:List (Nat×bB)}(id:Nat)(h:aL l id≠ .absent):id∈l.map (·.1):=by
 unfold aL at h;induction l with
 |nil=>exact absurd rfl h
 |cons p r ih=>
  unfold fI at h;split at h
  ·rename_i e;simp[e]
  ·exact List.mem_cons_of_mem _ (ih h)
theorem nC(hT:fP P T)(hW:BS T){id:Nat}{l:List Oper}{o:Oper}{dst:Nat}{callee:Operand}{args:Array Operand}{ts:Array TypeId}(os:List (Nat×bB))(hH:H=aL os)(hos:os.all (λp=> !p.2.mut)=true)(hpi:∀x∈os.map (·.1),x∈pins)
 (k:Nat)(hk:l[k]? =some o)(ho:o.op=.call {callee:=.value callee,args:=args,argTypes:=ts})(hd:o.dst=some dst)(hg:o.guard=none)(hN:dst<N){n:Nat}{rd u:DV}{r:Value}{az:List DV}(hrd:∀w E,RD w E rd r)(hcall:oQ F u az i n r)
 (h:((yP P T N l (l.take k) (λ_=>none) env (aL os)).ok/\(yP P T N l (l.take k) (λ_=>none) env (aL os)).H=aL os/\close (aL os) 8 (kH (yP P T N l (l.take k) (λ_=>none) env (aL os)).env callee)=some u/\
    cM (args.toList.map λx=>close (aL os) 8 (kH (yP P T N l (l.take k) (λ_=>none) env (aL os)).env x))=some az)/\
   (yP P T N l (l.drop (k+1)) (λ_=>none) (cE (yP P T N l (l.take k) (λ_=>none) env (aL os)).env dst (.d rd)) (aL os)).ok/\
   Q .normal (yP P T N l (l.drop (k+1)) (λ_=>none) (cE (yP P T N l (l.take k) (λ_=>none) env (aL os)).env dst (.d rd)) (aL os)).env
     (yP P T N l (l.drop (k+1)) (λ_=>none) (cE (yP P T N l (l.take k) (λ_=>none) env (aL os)).env dst (.d rd)) (aL os)).H (i+n)):FB F N pins (.region id l.toArray false) Q env H i:=by
 subst hH;obtain⟨⟨h1,h2,h3,h4⟩,h5,h6⟩:=h;have hl:l=l.take k++o::l.drop (k+1):=by
  have hlt:=(List.getElem?_eq_some_iff.1 hk).1;have he:=(List.getElem?_eq_some_iff.1 hk).2
  conv=>lhs;rw[<-List.take_append_drop k l]
  rw[List.drop_eq_getElem_cons hlt,he]
 have key:=XJ (F:=F) (pins:=pins) (Q:=Q) (env:=env) (H:=aL os) (i:=i) (id:=id) hT hW (pre:=l.take k) (post:=l.drop (k+1)) (o:=o) (dst:=dst) (λ_=>none) (λ_=>⟨rfl,λ_ h=>h⟩) ho hd hg hN hrd (s1:=yP P T N l (l.take k) (λ_=>none) env (aL os))
  (s2:=yP P T N l (l.drop (k+1)) (λ_=>none) (cE (yP P T N l (l.take k) (λ_=>none) env (aL os)).env dst (.d rd)) (aL os)) (by rw[<-hl];rfl) h1 (by rw[h2];exact AX hos) (by rw[h2];exact λid h=>hpi id (nX id h)) (by rw[h2];exact h3) (by rw[h2];exact h4) hcall
  (by rw[<-hl,h2];rfl) h5 h6
 rwa[<-hl]at key
end
end
section
open Go.RowKit
section
variable{P:Program} {N:Nat} {w0:cX} {X:Nat->Prop} {Q:LX->eD->dM->Prop} {env:eD} {H:dM}
theorem hZ{c:Code}(b j id s:Nat){fz:Bool}{cs:List LV}(hs:0<s)(h:H b=.box fz cs/\cs[j]? =some .nl/\H id=.absent/\eW P N w0 X c Q env (cE (cE H id (.row false s [])) b (.box fz (cs.set j (.ow id 0 0))))):eW P N w0 X c Q env H:=by
 obtain⟨hb,hj,hid,h⟩:=h;have hne:b≠id:=λe=>by rw[e,hid]at hb;cases hb
 intro r hr β a w sm;obtain⟨m1,g1⟩:=uS sm.mem hid hs;obtain⟨m2,g2⟩:=m1.rebox (b:=b) (fz:=fz) (cs:=cs) (cs':=cs.set j (.ow id 0 0)) (by rw[cG _ _ hne];exact hb) aM λi c c' v hc hc' hr=>by
  rw[List.getElem?_set]at hc';by_cases e:j=i
  ·subst e;rw[hj]at hc;injection hc with hc;subst hc
   have hl:=(List.getElem?_eq_some_iff.1 hj).1;simp[hl]at hc';subst hc';cases hr with|nl p=>exact .ow0 id 0 p false s [] (by rw[aX]) (.inl ⟨by rw[aX],rfl⟩)
  ·simp only[e,if_false]at hc';rw[hc]at hc';injection hc' with hc';subst hc'
   exact hr
 exact h r hr _ a w ⟨g2.marks (g1.marks sm.defers),sm.size,m2.ext,m2.xold,m2.fresh,m2.inj,λt=>g2.R (g1.R (sm.env t)),m2.obj,m2.pin⟩
end
end
section
open Go.RowKit Go.Shelf Go.Sort Go.Proofs
structure zX{α:Type}(k:Nat)(d:α->DV)(enc:α->List Value):Prop where
 pos:0<k
 len:∀x,(enc x).length=k
 lenD:∀x,(aQ (d x)).length=k
 one:∀x,∀v∈enc x,v.oneCell'=true
 cell:∀(x:α) (i:Nat) (c:DV) (v:Value),(aQ (d x))[i]? =some c->(enc x)[i]? =some v->∀w E u,RD w E c u↔u=v
theorem Nl{α:Type}[Inhabited α]{k:Nat}{d:α->DV}{enc:α->List Value}(C:zX k d enc)(l:List α):(flatK enc k l.toArray).toList=l.flatMap enc:=by
 have hk:=C.pos;apply List.ext_getElem?;intro i;by_cases hi:i<l.length*k
 ·have hlt:i / k<l.length:=(Nat.div_lt_iff_lt_mul hk).2 hi;have hm:=Nat.mod_lt i hk;have e1:(l.flatMap enc)[i]? =(enc l[i / k])[i%k]? :=by
   have key:∀(l:List α) (q r:Nat) (hq:q<l.length),r<k->(l.flatMap enc)[q*k+r]? =(enc l[q])[r]? :=by
    intro l;induction l with
    |nil=>intro q r hq;simp at hq
    |cons x t ih=>
     intro q r hq hr;simp only[List.flatMap_cons];cases q with
     |zero=>rw[Nat.zero_mul,Nat.zero_add,List.getElem?_append_left (by rw[C.len];exact hr)];rfl
     |succ q=>
      rw[List.getElem?_append_right (by rw[C.len,Nat.add_mul];omega),C.len,show(q+1)*k+r-k=q*k+r by rw[Nat.add_mul];omega];exact ih q r (by simpa using hq) hr
   have:=key l (i / k) (i%k) hlt hm;rw[show i / k*k+i%k=i by rw[Nat.mul_comm];exact Nat.div_add_mod _ _]at this;exact this
  rw[e1];have hr:i%k<(enc l[i / k]).length:=by rw[C.len];exact hm
  have e2:(flatK enc k l.toArray)[i]? =some ((enc l.toArray[i / k]!)[i%k]!):=by simp[flatK,hi]
  rw[Array.getElem?_toList,e2,List.getElem?_eq_getElem hr];simp[hlt,hr]
 ·rw[List.getElem?_eq_none (by simp[flatK];omega),List.getElem?_eq_none];have:(l.flatMap enc).length=l.length*k:=by
   clear hi;induction l with
   |nil=>simp
   |cons x t ih=>simp only[List.flatMap_cons,List.length_append,C.len,ih,List.length_cons,Nat.add_mul];omega
  omega
section
variable{P:Program} {ρ:Ren} {α:Type} [Inhabited α]
theorem yQ{α:Type}{k:Nat}{d:α->DV}{enc:α->List Value}(C:zX k d enc):∀(l:List α) (i:Nat) (c:DV) (v:Value),(bS (l.map d))[i]? =some c->(l.flatMap enc)[i]? =some v->∀w E u,RD w E c u↔u=v
 |[],i,c,v,hc,_=>by simp[bS]at hc
 |x::t,i,c,v,hc,hv=>by
  simp only[List.map_cons,bS,List.flatMap_cons]at hc hv;by_cases hi:i<k
  ·rw[List.getElem?_append_left (by rw[C.lenD];exact hi)]at hc;rw[List.getElem?_append_left (by rw[C.len];exact hi)]at hv;exact C.cell x i c v hc hv
  ·rw[List.getElem?_append_right (by rw[C.lenD];omega),C.lenD]at hc;rw[List.getElem?_append_right (by rw[C.len];omega),C.len]at hv;exact yQ C t (i-k) c v hc hv
end
end
section
open Go.RowKit
def ZN{β:Type}(B:Nat)(J:β->World->Prop):Prop:=
 ∀s W W' row,J s W->W.grownBy W' row->W.drawn<=W'.drawn->(∀r,row=some r->B<=r/\∃o:Obj,W.heap[r]? =some o/\o.isCells=false)->J s W'
theorem ZN.putObj{β:Type}{B:Nat}{J:β->World->Prop}(h:ZN B J){s:β}{W:World}{l:Nat}{o:Obj}(o':Obj)(hs:J s W)(hB:B<=l)(hl:W.heap[l]? =some o)(ho:o.isCells=false):J s (W.putObj l o'):=
 h s W _ (some l) hs (grownBy_putObj' W l o') (Nat.le_refl _) (λr e=>by cases e;exact⟨hB,o,hl,ho⟩)
theorem ZN.alloc{β:Type}{B:Nat}{J:β->World->Prop}(h:ZN B J){s:β}{W:World}(o:Obj)(hs:J s W):J s (W.alloc o):=
 h s W _ none hs (World.grownBy_alloc W o none) (Nat.le_refl _) (λr e=>by cases e)
def UK{α:Type}(B:Nat)(I:List α->World->Prop)(xs:List α)(W:World):Exit->Act->World->Prop
 | .normal,_,W'=>KeepsFrom B W W'/\KeepsWalks W W'/\I xs W'
 |_,_,_=>False
theorem vL{F:Fence}{n:Nat}{P:Program}{w:World}{α:Type}{g:Operand}{p:Tmp}{assign body:Code}{Q:Exit->Act->World->Prop}{a:Act}
 (hro:F.round=none)(h1:1<=n){gf:Nat}{lb:Array Value}(hg:a.eval g=.func (.func gf) #[] lb)(hFg:F.fn gf)(eg:∀args w,(callFunc gf args).run P w=.ok (.enter gf args) w)
 {enc:α->Value}{S:List α->Prop}{N:Nat}(I:List α->World->Prop)(hI:ZN w.heap.size I)(h0:I [] w)
 (hseq:∀(l:Nat) (J:List α->World->Prop) (W1:World),I [] W1->w.heap.size<=W1.heap.size->ZN W1.heap.size J->
   (∀pre x W,J pre W->pre.length<N->YieldAt F (n-1-1) P l #[enc x] W λe W'=>e=.returned (.bool true)/\J (pre++[x]) W'/\KeepsWalks W W')->J [] W1->
   CallsIn F (n-1) P gf (#[.func (.yield l) #[] #[]]++lb) W1 λe W'=>(∃v,e=.returned v)/\∃xs,S xs/\J xs W')
 (Ax:α->Act->World->Prop)(hAx:∀x a',ZN w.heap.size (λ(_:Unit) W=>Ax x a' W))
 (hassign:∀(l:Nat) (pre:List α) (x:α) (W:World) (K:Act->World->Prop),I pre W->(∀a' W',W.grownBy W' none->W.drawn<=W'.drawn->Ax x a' W'->K a' W')->
   assign.wpIn (F.inRound l) (n-1-1) P (Exit.then K (λ_ _ _=>False)) {tmps:=a.tmps.setIfInBounds p (enc x),defers:=[]} W)
 (hbody:∀(l:Nat) (pre:List α) (x:α) (a':Act) (W:World),I pre W->Ax x a' W->pre.length<N->body.wpIn (F.inRound l) (n-1-1) P (UK w.heap.size I (pre++[x]) W) a' W)
 (hdone:∀(D:Nat) (xs:List α) (W:World),w.heap.size<=D->S xs->I xs W->W.heap[D]? =some (.deferred (some []))->Q .normal {a with defers:={target:=.collected D,args:= #[]}::a.defers} W):
 (Code.rangeFunc g #[p] assign body).wpIn F n P Q a w:=by
 refine wpIn_rangeFunc ?_;intro fn hfn;rw[hro];obtain⟨rec,hrec⟩:∃rec:LoopState->Option Code->Loop,rec=λst pe=>{state:=st,pending:=pe,fn,tmps:=a.tmps,params:= #[p],assign,body,defers:=w.heap.size}:=⟨_,rfl⟩;obtain⟨W1,hW1⟩:∃W1,(w.alloc (.deferred (some []))).alloc (.loop (rec .ready none))=W1:=⟨_,rfl⟩;have hL1:W1.heap[w.heap.size+1]? =some (.loop (rec .ready none)):=by
  rw[<-hW1];have:=World.alloc_heap_new (w.alloc (.deferred (some []))) (.loop (rec .ready none));rwa[World.size_alloc]at this
 have hK1:W1.heap[w.heap.size]? =some (.deferred (some [])):=by
  rw[<-hW1];exact(Below.heap_alloc _ _ _ aM).trans (World.alloc_heap_new w _)
 have hI1:I [] W1:=by rw[<-hW1];exact hI.alloc _ (hI.alloc _ h0)
 have hs1:W1.heap.size=w.heap.size+2:=by rw[<-hW1];simp
 refine⟨w.heap.size+1,[{target:=.collected w.heap.size,args:= #[]}],W1,{target:=.fn (.func gf) lb,args:= #[.func (.yield (w.heap.size+1)) #[] #[]]},W1,gf,
  #[.func (.yield (w.heap.size+1)) #[] #[]]++lb,W1,?_,?_,?_,?_,λ_=>h1,?_⟩
 ·rw[<-hW1,hrec];exact run_enterLoop_outer _ _ _ _ _
 ·simp only[resolve,hg];simp[go_sem]
 ·intro f' hf';simp[Target.leads]at hf';subst hf';exact hFg
 ·simp[invoke,go_sem,eg]
 ·have keep:∀{A B:World} {row:Option Nat} {k:Nat} {o:Obj},A.grownBy B row->(∀r,row=some r->W1.heap.size<=r/\∃o:Obj,A.heap[r]? =some o/\o.isCells=false)->k<W1.heap.size->A.heap[k]? =some o->B.heap[k]? =some o:=λ{A B row k o} hg' hr hk ho=>
   (hg'.block k (Array.getElem?_eq_some_iff.1 ho).1 (λe=>by have:=(hr k e.symm).1;omega)).trans ho
  refine(hseq (w.heap.size+1) (λpre W=>I pre W/\W.heap[w.heap.size+1]? =some (.loop (rec .ready none))/\W.heap[w.heap.size]? =some (.deferred (some []))) W1 hI1 aE
   (λs A B row hs hg' hd hr=>⟨hI s A B row hs.1 hg' hd (λr e=>⟨by have:=(hr r e).1;omega,(hr r e).2⟩),keep hg' hr aE hs.2.1,keep hg' hr aE hs.2.2⟩)
   ?_ ⟨hI1,hL1,hK1⟩).mono ?_
  ·rintro pre x W ⟨hi,hl,hk⟩ hlen;have hlt:w.heap.size+1<W.heap.size:=(Array.getElem?_eq_some_iff.1 hl).1;have hy:(Instr.yield (w.heap.size+1) #[enc x]).run P W=.ok (.round (w.heap.size+1) fn (a.tmps.setIfInBounds p (enc x)) assign body) W:=by
    have:=run_yield (P:=P) (args:= #[enc x]) hl (by rw[hrec];simp);rw[hrec]at this;simpa using this
   refine⟨fn,_,assign,body,hy,roundIn_of_wpIn hfn (hassign _ pre x W _ hi ?_)⟩;intro a' Wa hga hda hax;have hla:=(hga.block _ (Array.getElem?_eq_some_iff.1 hl).1 aM).trans hl;have hka:=(hga.block _ (Array.getElem?_eq_some_iff.1 hk).1 aM).trans hk;have hia:I pre Wa:=hI pre W Wa none hi hga hda (λr e=>by cases e);have hwa:KeepsWalks W Wa:=KeepsWalks.of_grownBy hga (λj o e=>by cases e);have hlta:w.heap.size+1<Wa.heap.size:=(Array.getElem?_eq_some_iff.1 hla).1;refine⟨_,run_beginRound hla (by rw[hrec]),?_⟩;have hl2:(Wa.putObj (w.heap.size+1) (.loop {rec .ready none with state:=.busy})).heap[w.heap.size+1]? =some (.loop {rec .ready none with state:=.busy}):=World.putObj_heap_same hlta;have hk2:(Wa.putObj (w.heap.size+1) (.loop {rec .ready none with state:=.busy})).heap[w.heap.size]? =some (.deferred (some [])):=(World.putObj_heap_other aE).trans hka;have hw2:KeepsWalks Wa (Wa.putObj (w.heap.size+1) (.loop {rec .ready none with state:=.busy})):=KeepsWalks.putObj _ hla rfl;refine wpIn_mono (hbody _ pre x a' _ (hI.putObj _ hia aE hla rfl) ((hAx x a').putObj (s:=()) _ hax aE hla rfl) hlen) ?_;rintro e a3 W3 hp;cases e with
   |normal=>
    obtain⟨hk3,hkp3,hi3⟩:=hp;have hl3:=hk3.same _ _ aE hl2 rfl;have hd3:=hk3.same _ _ (Nat.le_refl _) hk2 rfl;have hr:=run_endRound (P:=P) none hl3;refine⟨_,_,hr,rfl,⟨hI.putObj _ hi3 aE hl3 rfl,?_,(World.putObj_heap_other aE).trans hd3⟩,(hwa.trans hw2).trans (hkp3.trans (KeepsWalks.putObj _ hl3 rfl))⟩;have:=World.putObj_heap_same (w:=W3) (o:=.loop (rec .ready none)) (Array.getElem?_eq_some_iff.1 hl3).1;rw[hrec]at this|-;exact this
   |ret=>exact hp.elim
   |exit id=>exact hp.elim
   |goto t=>exact hp.elim
   |panic ch=>exact hp.elim
   |outgrown=>exact hp.elim
  ·rintro e W2 ⟨⟨v,rfl⟩,xs,hS,hi,hl,hk⟩;exact⟨none,_,by have:=run_endLoop (P:=P) hl (by rw[hrec];simp);rw[hrec]at this;exact this,hdone _ xs _ (Nat.le_refl _) hS (hI.putObj _ hi aE hl rfl) ((World.putObj_heap_other aE).trans hk)⟩
structure uE(s:Nat)(b0:Option Nat)(base:Nat)(W:World)(v:Value)(n:Nat)(cells:List Value)(gb:Option Nat):Prop where
 len:cells.length=n*s
 one:∀u∈cells,u.oneCell'=true
 lies:(gb=none/\n=0/\∃a,v=.slice a 0 0)\/∃g cap cur e,gb=some g/\v=.slice (some ⟨g,0,none⟩) n cap/\(b0=some g\/base<=g)/\W.heap[g]? =some (.cells cur e (0,0))/\n<=cap/\cap<=maxLen/\cap*s=cur.size/\cur.toList.take (n*s)=cells
theorem uE.kept{s:Nat}{b0:Option Nat}{base:Nat}{W W':World}{v:Value}{n:Nat}{cells:List Value}{gb row:Option Nat}(h:uE s b0 base W v n cells gb)(hg:W.grownBy W' row)(hr:gb=none\/gb≠row):uE s b0 base W' v n cells gb:=by
 refine⟨h.len,h.one,?_⟩;rcases h.lies with h1|⟨g,cap,cur,e,rfl,h2,h3,h4,h5⟩
 ·exact .inl h1
 ·refine .inr ⟨g,cap,cur,e,rfl,h2,h3,(hg.block g (Array.getElem?_eq_some_iff.1 h4).1 (λe'=>?_)).trans h4,h5⟩;rcases hr with hr|hr
  ·cases hr
  ·exact hr e'
theorem uE.append{P:Program}{t e:TypeId}{i:TypeInfo}{z:Value}{s:Nat}(ty:TypeId)(ht:P.underlying t=some (.slice e))(hi:P.info? e=some i)(hz:i.zero=some z)(hsz:i.size=s)(hzs:z.cells.size=s)(hs:0<s)
 {b0:Option Nat}{base:Nat}{W:World}{v:Value}{n:Nat}{cells:List Value}{gb:Option Nat}(h:uE s b0 base W v n cells gb)(hbase:base<=W.heap.size){ad c:Nat}{news:List Value}(hn:news.length=s)(h1:∀u∈news,u.oneCell'=true)
 (hc:∀(j:Nat) (u:Value),news[j]? =some u->W.cell? ⟨ad,j,none⟩=some u)(hb:(n+1)*i.bytes<=140737488355328)(hm:n+1<=140737488355328):
 ∃v' W' g',(Builtin.append_ #[t,t] ty #[v,.slice (some ⟨ad,0,none⟩) 1 c]).run P W=.ok v' W'/\uE s b0 base W' v' (n+1) (cells++news) (some g')/\W.grownBy W' gb/\W.drawn<=W'.drawn/\(gb=some g'\/g'=W.heap.size)/\
  ((g'=W.heap.size/\W.grownBy W' none)\/(gb=some g'/\∀cur e,W.heap[g']? =some (.cells cur e (0,0))->∃cur',W'.heap[g']? =some (.cells cur' e (0,0))/\cur'.size=cur.size/\cur'.toList.take (n*s)=cur.toList.take (n*s))):=by
 have hlen:(cells++news).length=(n+1)*s:=by rw[List.length_append,h.len,hn,Nat.add_mul];omega
 have hone:∀u∈cells++news,u.oneCell'=true:=λu hu=>(List.mem_append.1 hu).elim (h.one u) (h1 u);have hlo:(Builtin.lenOf (.slice (some ⟨ad,0,none⟩) 1 c)).run P W=.ok 1 W:=by simp[Builtin.lenOf]
 have hf:∀w2:World,w2.heap=W.heap->(Builtin.firstCells i.size 1 (.slice (some ⟨ad,0,none⟩) 1 c)).run P w2=.ok news.toArray w2:=λw2 hw=>
  jD (by rw[hsz];omega) λj u hu=>by rw[rZ hw];simpa using hc j u hu
 have hd:∀k,(TypeDesc.slice e)≠ .int k:=λk=>aM;have out:∀{ba:Option Addr} {cap:Nat} (olds:List Value),olds=cells->(∀w2:World,w2.heap=W.heap->(Builtin.firstCells i.size n (.slice ba n cap)).run P w2=.ok olds.toArray w2)->cap<n+1->
  ∃v' W' g',(Builtin.append_ #[t,t] ty #[.slice ba n cap,.slice (some ⟨ad,0,none⟩) 1 c]).run P W=.ok v' W'/\uE s b0 base W' v' (n+1) (cells++news) (some g')/\W.grownBy W' gb/\W.drawn<=W'.drawn/\(gb=some g'\/g'=W.heap.size)/\
  ((g'=W.heap.size/\W.grownBy W' none)\/(gb=some g'/\∀cur e,W.heap[g']? =some (.cells cur e (0,0))->∃cur',W'.heap[g']? =some (.cells cur' e (0,0))/\cur'.size=cur.size/\cur'.toList.take (n*s)=cur.toList.take (n*s))):=by
  intro ba cap olds ho hol hcap;subst ho;have hrun:=pP (P:=P) (w:=W) (ty:=ty) (base:=ba) (sLen:=n) (sCap:=cap) ht ht hd hi hz hlo hf hol hcap aE hb;have hge:=grownCap_ge W (n+1) cap e;have hgc:(olds.toArray++news.toArray++Builtin.zeroCells z.cells (grownCap W (n+1) cap e-(n+1))).size=grownCap W (n+1) cap e*s:=by
   simp only[Array.size_append,List.size_toArray,size_zeroCells,hzs,h.len,hn];have:(n+1+(grownCap W (n+1) cap e-(n+1)))*s=n*s+s+(grownCap W (n+1) cap e-(n+1))*s:=by rw[Nat.add_mul,Nat.add_mul];omega
   rw[<-this];congr 1;omega
  refine⟨_,_,_,hrun,⟨hlen,hone,.inr ⟨_,_,_,e,rfl,rfl,.inr hbase,heap_alloc_new W.drew _,hge,grownCap_le_maxLen W (n+1) cap e (by unfold maxLen;omega),hgc.symm,?_⟩⟩,⟨rfl,rfl,rfl,aM,λk hk _=>heap_alloc_old W.drew _ hk⟩,Nat.le_succ _,.inr rfl,.inl ⟨rfl,⟨rfl,rfl,rfl,aM,λk hk _=>heap_alloc_old W.drew _ hk⟩⟩⟩;rw[<-hlen];simp only[Array.toList_append,List.append_assoc];rw[<-List.append_assoc,List.take_left]
 rcases h.lies with⟨rfl,rfl,a,rfl⟩|⟨g,cap,cur,e',rfl,rfl,hbg,hblk,hnc,hcm,hcs,htk⟩
 ·have hc0:cells=[]:=List.eq_nil_of_length_eq_zero (by simpa using h.len);refine out [] hc0.symm (λw2 _=>by cases a<;>simp[Builtin.firstCells,loadCells,loadCellsFrom]) aE
 ·by_cases hroom:n+1<=cap
  ·have hfit:n*s+news.length<=cur.size:=by
    rw[hn,<-hcs];have:(n+1)*s<=cap*s:=Nat.mul_le_mul_right _ hroom;rw[Nat.add_mul]at this;omega
   have hrun:=kJ (P:=P) (w:=W) (ty:=ty) (base:=some ⟨g,0,none⟩) (sLen:=n) (sCap:=cap) ht ht hd hi hlo hf hroom;have hst:=run_storeCells_at P g (n*s) e' news 0 cur W hblk aE h1;simp only[Nat.add_zero]at hst;simp only[Addr.add_lit,Nat.zero_add,hsz]at hrun;rw[hst]at hrun;have hcl:cur.toList.length=cur.size:=aM;refine⟨_,_,g,hrun,⟨hlen,hone,.inr ⟨g,cap,_,e',rfl,rfl,hbg,setRow_heap W g cur _ e' (0,0) hblk,hroom,hcm,?_,?_⟩⟩,⟨rfl,rfl,rfl,aM,λk _ hk=>setRow_other W g k _ (λe=>hk (by rw[e]))⟩,Nat.le_refl _,.inl rfl,.inr ⟨rfl,λcur2 e2 hc2=>?_⟩⟩
   ·rw[hcs];simp only[List.size_toArray,List.length_append,List.length_take,List.length_drop,hcl];omega
   ·simp only[htk];rw[List.append_assoc,<-List.append_assoc,<-hlen,List.take_left]
   ·rw[hblk]at hc2;injection hc2 with hc2;injection hc2 with p1 p2;subst p1;subst p2
    refine⟨_,setRow_heap W g cur _ e' (0,0) hblk,?_,?_⟩
    ·simp only[List.size_toArray,List.length_append,List.length_take,List.length_drop,hcl];omega
    ·simp only[htk];rw[List.append_assoc,<-h.len,List.take_left]
  ·refine out (cur.toList.take (n*s)) htk (λw2 hw=>?_) aE;refine jD (by rw[hsz,List.length_take,Array.length_toList,<-hcs];have:n*s<=cap*s:=Nat.mul_le_mul_right _ hnc;omega) λj u hu=>?_;rw[rZ hw,cell_of_row W g _ cur e' (0,0) hblk];rw[List.getElem?_take]at hu;split at hu
   ·simpa using hu
   ·cases hu
theorem xX{F:Fence}{nF:Nat}{P:Program}(W:World){ops:Array Oper}{rest:List Oper}{o:Oper}{a:Act}{Q:Exit->Act->World->Prop}(hg:o.guard=none)(sl x:Operand)(t:TypeId)(ho:o.op=.call {callee:=.builtin .append,args:= #[sl,x],argTypes:= #[t,t]})
 {e:TypeId}{i:TypeInfo}{z:Value}{s:Nat}(ht:P.underlying t=some (.slice e))(hi:P.info? e=some i)(hz:i.zero=some z)(hsz:i.size=s)(hzs:z.cells.size=s)(hs:0<s)
 {b0:Option Nat}{base:Nat}{v:Value}{n:Nat}{cells:List Value}{gb:Option Nat}(hv:a.eval sl=v)(h:uE s b0 base W v n cells gb)(hbase:base<=W.heap.size){ad c:Nat}{news:List Value}(hx:a.eval x=.slice (some ⟨ad,0,none⟩) 1 c)(hn:news.length=s)(h1:∀u∈news,u.oneCell'=true)
 (hc:∀(j:Nat) (u:Value),news[j]? =some u->W.cell? ⟨ad,j,none⟩=some u)(hb:(n+1)*i.bytes<=140737488355328)(hm:n+1<=140737488355328)
 (hK:∀v' W' g',uE s b0 base W' v' (n+1) (cells++news) (some g')->W.grownBy W' gb->W.drawn<=W'.drawn->(gb=some g'\/g'=W.heap.size)->
   ((g'=W.heap.size/\W.grownBy W' none)\/(gb=some g'/\∀cur e,W.heap[g']? =some (.cells cur e (0,0))->∃cur',W'.heap[g']? =some (.cells cur' e (0,0))/\cur'.size=cur.size/\cur'.toList.take (n*s)=cur.toList.take (n*s)))->wpListIn F nF P ops Q rest (a.put o.dst v') W'):wpListIn F nF P ops Q (o::rest) a W:=by
 refine wpListIn_plain hg λK hK'=>?_;obtain⟨v',W',g',hr,h2,h3,h4,h5,h6⟩:=h.append o.type ht hi hz hsz hzs hs hbase hn h1 hc hb hm;unfold Oper.wpIn;refine⟨by simp[Oper.about,ho,resolve,Target.leads,Sem.run_pure],?_⟩;rw[Oper.semAt_plain F _ _ (by rw[ho];intro c hc';cases hc')];simp[execOp,ho,resolve,invoke,builtin,hv,hx,Result.andThen];rw[hr];exact hK' _ _ (hK v' W' g' h2 h3 h4 h5 h6)
structure Gn(b0:Option Nat)(W0 W:World):Prop where
 os:W.os=W0.os
 tape:W.tape=W0.tape
 output:W.output=W0.output
 size:W0.heap.size<=W.heap.size
 block:∀k,k<W0.heap.size->some k≠b0->W.heap[k]? =W0.heap[k]?
 drawn:W0.drawn<=W.drawn
theorem Gn.refl(b0:Option Nat)(W:World):Gn b0 W W:=⟨rfl,rfl,rfl,Nat.le_refl _,λ_ _ _=>rfl,Nat.le_refl _⟩
theorem Gn.step{b0:Option Nat}{W0 W W':World}{row:Option Nat}(h:Gn b0 W0 W)(hg:W.grownBy W' row)(hd:W.drawn<=W'.drawn)(hr:∀r,row=some r->b0=some r\/W0.heap.size<=r):Gn b0 W0 W':=
 ⟨hg.os.trans h.os,hg.tape.trans h.tape,hg.output.trans h.output,Nat.le_trans h.size hg.size,λk hk hb=>(hg.block k (Nat.lt_of_lt_of_le hk h.size) (λe=>by rcases hr k e.symm with q|q;exact hb q.symm;omega)).trans (h.block k hk hb),Nat.le_trans h.drawn hd⟩
def Ca(m:Nat)(b0:Option Nat)(W0 W:World):Prop:=∀g cur0 e0,b0=some g->W0.heap[g]? =some (.cells cur0 e0 (0,0))->∃cur,W.heap[g]? =some (.cells cur e0 (0,0))/\cur.size=cur0.size/\cur.toList.take m=cur0.toList.take m
theorem Ca.refl(m:Nat)(b0:Option Nat)(W:World):Ca m b0 W W:=λ_ cur0 _ _ h=>⟨cur0,h,rfl,rfl⟩
theorem Ca.step{m:Nat}{b0:Option Nat}{W0 W W':World}{row:Option Nat}(h:Ca m b0 W0 W)(hg:W.grownBy W' row)(hr:b0=none\/b0≠row):Ca m b0 W0 W':=λg cur0 e0 hb h0=>by
 obtain⟨cur,h1,h2,h3⟩:=h g cur0 e0 hb h0;refine⟨cur,(hg.block g (Array.getElem?_eq_some_iff.1 h1).1 (λe=>?_)).trans h1,h2,h3⟩;rcases hr with hr|hr
 ·rw[hr]at hb;cases hb
 ·exact hr (hb.trans e)
theorem Ca.write{m n:Nat}{b0 gb:Option Nat}{W0 W W':World}{g':Nat}(h:Ca m b0 W0 W)(hn:m<=n)(hg:W.grownBy W' gb)
 (hw:(g'=W.heap.size/\W.grownBy W' none)\/(gb=some g'/\∀cur e,W.heap[g']? =some (.cells cur e (0,0))->∃cur',W'.heap[g']? =some (.cells cur' e (0,0))/\cur'.size=cur.size/\cur'.toList.take n=cur.toList.take n)):Ca m b0 W0 W':=by
 rcases hw with⟨_,hg'⟩|⟨hgb,hw⟩
 ·exact h.step hg' (by cases b0<;>simp)
 ·by_cases e:b0=gb
  ·intro g cur0 e0 hb h0;rw[e,hgb]at hb;injection hb with hb;subst hb
   obtain⟨cur,h1,h2,h3⟩:=h g' cur0 e0 (e.trans hgb) h0;obtain⟨cur',q1,q2,q3⟩:=hw cur e0 h1;refine⟨cur',q1,q2.trans h2,?_⟩;have:=congrArg (List.take m) q3;rw[List.take_take,List.take_take,Nat.min_eq_left hn]at this;exact this.trans h3
  ·exact h.step hg (.inr e)
section
variable{w0:cX} {X:Nat->Prop} {H:Nat->bB} {β:Nat->Option Nat} {w w':World} {α:Type} [Inhabited α] {k:Nat} {d:α->DV} {enc:α->List Value}
theorem zX.flat_len(C:zX k d enc)(l:List α):(l.flatMap enc).length=l.length*k:=by rw[<-Nl C l];simp
theorem zX.flatD_len{α:Type}{k:Nat}{d:α->DV}{enc:α->List Value}(C:zX k d enc)(l:List α):(bS (l.map d)).length=l.length*k:=by
 rw[Go.Eng.flat_len (size:=k) (λx hx=>by obtain⟨y,_,rfl⟩:=List.mem_map.1 hx;exact C.lenD y)];simp
theorem zX.all{α:Type}{k:Nat}{d:α->DV}{enc:α->List Value}(C:zX k d enc)(l:List α):∀x∈l.map d,(aQ x).length=k:=λx hx=>by obtain⟨y,_,rfl⟩:=List.mem_map.1 hx;exact C.lenD y
theorem zX.reads(C:zX k d enc){l:List α}{cur:Array Value}(h:cur.toList.take (l.length*k)=l.flatMap enc):l.length*k<=cur.size/\∀(E:Nat->Prop) (W:World) (i:Nat) (c:DV) (v:Value),(bS (l.map d))[i]? =some c->cur[i]? =some v->v.oneCell'=true/\RD W E c v:=by
 have hl:=congrArg List.length h;rw[List.length_take,C.flat_len]at hl;have hcl:cur.toList.length=cur.size:=aM;refine⟨aE,λE W i c v hc hv=>?_⟩;have hi:i<l.length*k:=by have:=(List.getElem?_eq_some_iff.1 hc).1;rw[C.flatD_len]at this;exact this
 have hv':(l.flatMap enc)[i]? =some v:=by rw[<-h,List.getElem?_take,if_pos hi];simpa using hv
 refine⟨?_,(yQ C l i c v hc hv' _ _ _).2 rfl⟩;obtain⟨x,_,hx⟩:=List.mem_flatMap.1 (List.mem_of_getElem? hv');exact C.one x v hx
theorem zX.holds(C:zX k d enc){l:List α}{cur:Array Value}(hn:l.length*k<=cur.size){E:Nat->Prop}{W:World}(h:∀(i:Nat) (c:DV) (v:Value),(bS (l.map d))[i]? =some c->cur[i]? =some v->RD W E c v):cur.toList.take (l.length*k)=l.flatMap enc:=by
 apply List.ext_getElem?;intro i;rw[List.getElem?_take];by_cases hi:i<l.length*k
 ·rw[if_pos hi];have h1:i<cur.size:=aE;have h2:i<(l.flatMap enc).length:=by rw[C.flat_len];exact hi
  have h3:i<(bS (l.map d)).length:=by rw[C.flatD_len];exact hi
  have:=(yQ C l i _ _ (List.getElem?_eq_getElem h3) (List.getElem?_eq_getElem h2) W E _).1 (h i _ _ (List.getElem?_eq_getElem h3) (Array.getElem?_eq_getElem h1));rw[List.getElem?_eq_getElem h2,<-this];simp[h1]
 ·rw[if_neg hi,List.getElem?_eq_none (by rw[C.flat_len];omega)]
theorem XK(f:Nat->bB)(i:Nat)(x y:bB):cE (cE f i x) i y=cE f i y:=by funext j;simp only[cE];split<;>rfl
theorem dR.appended(C:zX k d enc)(m:dR w0 X H β w){id new:Nat}{l p:List α}{b0 gb:Option Nat}{v:Value}(hH:H id=.row false k (l.map d))(hnew:H new=.absent)(hb0:(b0=none/\l=[])\/(∃b,b0=some b/\β id=some b/\∃cur e,w.heap[b]? =some (.cells cur e (0,0))/\cur.toList.take (l.length*k)=l.flatMap enc))
 (hr:uE k b0 w.heap.size w' v (l.length+p.length) ((l++p).flatMap enc) gb)(hs:Gn b0 w w')(hh:Ca (l.length*k) b0 w w'):
 ∃β',dR w0 X (cE (cE H id .dead) new (.row false k ((l++p).map d))) β' w'/\R w' (Ex X β' (cE (cE H id .dead) new (.row false k ((l++p).map d)))) β' (cE (cE H id .dead) new (.row false k ((l++p).map d))) (.ow new 0 (l.length+p.length)) v:=by
 have hne:id≠new:=λe=>by rw[e,hnew]at hH;cases hH
 have hlive:(H id).live=true:=by rw[hH];rfl
 have hmut:(H id).mut=true:=by rw[hH];rfl
 have hn':(l++p).length=l.length+p.length:=aM;obtain⟨wm,hwm⟩:∃wm:World,wm={w with heap:=w'.heap.extract 0 w.heap.size}:=⟨_,rfl⟩;have hms:wm.heap.size=w.heap.size:=by rw[hwm];simp[hs.size]
 have hmk:∀j,j<w.heap.size->wm.heap[j]? =w'.heap[j]? :=λj hj=>by
  rw[hwm];simp only[Array.getElem?_extract];have:=hs.size;rw[if_pos aE];congr 1;omega
 have hbel:zN wm.heap.size wm w':=by
  refine⟨?_,?_,?_,by rw[hms];exact hs.size,λj hj=>(hmk j aE).symm,?_⟩<;>rw[hwm]
  ·exact hs.os
  ·exact hs.tape
  ·exact hs.output
  ·exact hs.drawn
 have hm1:dR w0 X H β wm:=by
  rcases hb0 with⟨rfl,_⟩|⟨b,rfl,hb,cur,e,hblk,htk⟩
  ·have e:wm=w:=by
    have:w'.heap.extract 0 w.heap.size=w.heap:=by
     apply Array.ext_getElem?;intro j;by_cases hj:j<w.heap.size
     ·have h1:=hmk j hj;rw[hwm]at h1;exact h1.trans (hs.block j hj aM)
     ·have:=hs.size;rw[Array.getElem?_extract,if_neg aE,Array.getElem?_eq_none aE]
    rw[hwm,this]
   rw[e];exact m
  ·obtain⟨cur',q1,q2,q3⟩:=hh b cur e rfl hblk;have hbl:=(Array.getElem?_eq_some_iff.1 hblk).1;have hwb:wm.heap[b]? =some (.cells cur' e (0,0)):=(hmk b hbl).trans q1;have:=m.rewriteG (id:=id) (b:=b) (o':=.row false k (l.map d)) (w':=wm) hmut hb (by rw[hwm]) (by rw[hwm]) (by rw[hwm]) (by rw[hwm];exact Nat.le_refl _) hms (λj hj=>by
    by_cases hjl:j<w.heap.size
    ·rw[hmk j hjl];exact hs.block j hjl (λe=>hj (by injection e))
    ·rw[Array.getElem?_eq_none aE,Array.getElem?_eq_none aE]) (by
    unfold bQ;rw[hH,aX];refine .inr ⟨⟨false,_,rfl,Nat.le_refl _⟩,rfl,λb' c' t hbb hblk'=>?_⟩;rw[hb]at hbb;injection hbb with hbb;subst hbb
    rw[hblk]at hblk';injection hblk' with hblk';injection hblk' with p1 p2;subst p1;subst p2
    exact⟨cur',e,hwb,q2⟩) (λ_ _=>by
    unfold dO;rw[aX];obtain⟨r1,r2⟩:=C.reads (q3.trans htk);exact⟨C.pos,C.all l,.inr ⟨b,e,cur',hb,hwb,by simpa using r1,r2 _ _⟩⟩)
   rw[DF hH]at this;exact this.1
 rcases hr.lies with⟨rfl,hz,a,rfl⟩|⟨g,cap,cur,e,rfl,rfl,hbg,hblk,hnc,hcm,hcs,htk⟩
 ·have hl0:l=[]:=List.eq_nil_of_length_eq_zero aE;have hp0:p=[]:=List.eq_nil_of_length_eq_zero aE;subst hl0;subst hp0;obtain⟨m2,_⟩:=hm1.kill id hlive;obtain⟨m3,_⟩:=m2.grow hbel;obtain⟨m4,_⟩:=uS m3 (d:=new) (by rw[cG _ _ (Ne.symm hne)];exact hnew) C.pos;exact⟨_,m4,.ow0 new 0 a false k [] (by rw[aX];rfl) (.inl ⟨by rw[aX],rfl⟩)⟩
 ·rw[<-hn']at htk;obtain⟨r1,r2⟩:=C.reads htk;have hbr:∀(β':Nat->Option Nat) (H':Nat->bB),H' new=.row false k ((l++p).map d)->β' new=some g->R w' (Ex X β' H') β' H' (.ow new 0 (l.length+p.length)) (.slice (some ⟨g,0,none⟩) (l.length+p.length) cap):=λβ' H' h1 h2=>by
   have hR:=R.ow (w:=w') (E:=Ex X β' H') (β:=β') (H:=H') new 0 (l.length+p.length) g cap false k ((l++p).map d) cur e h1 h2 aM hnc hcm hblk (by rw[Nat.zero_add];exact hcs);rw[Nat.zero_mul]at hR;exact hR
  by_cases hgl:g<w.heap.size
  ·have hbg':b0=some g:=hbg.resolve_right aE;have hβ:β id=some g:=by
    rcases hb0 with⟨h,_⟩|⟨b,h,hb,_⟩
    ·rw[h]at hbg';cases hbg'
    ·rw[h]at hbg';injection hbg' with hbg';rw[<-hbg'];exact hb
   obtain⟨m2,_⟩:=hm1.grow hbel;obtain⟨m3,_⟩:=m2.moveObj (id:=id) (d:=new) l.length hH hnew;have:=m3.rewriteG (id:=new) (b:=g) (o':=.row false k ((l++p).map d)) (w':=w') (by rw[aX];rfl) (by rw[aX];exact hβ) rfl rfl rfl (Nat.le_refl _) rfl (λ_ _=>rfl) (by
    unfold bQ;rw[aX,aX];exact .inr ⟨⟨false,_,rfl,aM⟩,rfl,λb' c' t _ hblk'=>⟨c',t,hblk',rfl⟩⟩) (λ_ _=>by
    unfold dO;rw[aX];exact⟨C.pos,C.all _,.inr ⟨g,e,cur,by rw[aX];exact hβ,hblk,by simpa using r1,r2 _ _⟩⟩)
   rw[XK]at this;exact⟨_,this.1,hbr _ _ (by rw[aX]) (by rw[aX];exact hβ)⟩
  ·obtain⟨m2,_⟩:=hm1.kill id hlive;have hgs:=(Array.getElem?_eq_some_iff.1 hblk).1;have:=m2.newObj hbel (d:=new) (by rw[cG _ _ (Ne.symm hne)];exact hnew) (o:=.row false k ((l++p).map d)) (some g) (λb hb=>by injection hb with hb;subst hb;exact⟨aE,hgs⟩) (λ_ _=>by
    unfold dO;rw[aX];exact⟨C.pos,C.all _,.inr ⟨g,e,cur,by rw[aX],hblk,by simpa using r1,r2 _ _⟩⟩)
   exact⟨_,this.1,hbr _ _ (by rw[aX]) (by rw[aX])⟩
end
end
section
open Go.RowKit
section
variable{P:Program} {a:Act} {w:World} {ops:Array Oper} {Q:Exit->Act->World->Prop} {l:List Oper} {o:Oper}
theorem bG(hg:o.guard=none){v:Value}{w':World}(hr:(execOp a.eval o).run P w=.ok (.value v) w')(hk:wpList P ops Q l (a.put o.dst v) w'):wpList P ops Q (o::l) a w:=by
 unfold wpList;rw[if_pos (by simp[Region.wanted,hg])];left;unfold Oper.wp;rw[hr];exact hk
theorem Cb(hg:o.guard=none){w':World}(hr:(execOp a.eval o).run P w=.ok .skip w')(hk:wpList P ops Q l (a.put o.dst undef) w'):wpList P ops Q (o::l) a w:=by
 unfold wpList;rw[if_pos (by simp[Region.wanted,hg])];left;unfold Oper.wp;rw[hr];exact hk
theorem Ka(hg:o.guard=none){f:FuncId}{vs:Array Value}{w':World}(hr:(execOp a.eval o).run P w=.ok (.enter f vs) w')(hk:Calls P f vs w' λe w2=>∃v,e=.returned v/\wpList P ops Q l (a.put o.dst v) w2):wpList P ops Q (o::l) a w:=by
 unfold wpList;rw[if_pos (by simp[Region.wanted,hg])];left;unfold Oper.wp;rw[hr];simp only[Oper.upon];refine hk.mono ?_;rintro e w2 ⟨v,rfl,h⟩;exact h
theorem bX{d t:Nat}{v:Value}:(a.put (some d) v).eval (.tmp t)=if t=d/\d<a.tmps.size then v else a.eval (.tmp t):=by
 show(a.put (some d) v).tmps.getD t undef=if t=d/\d<a.tmps.size then v else a.tmps.getD t undef;simp only[Act.put,Array.getD_eq_getD_getElem?,Array.getElem?_setIfInBounds];by_cases h:d=t
 ·subst h;by_cases h2:d<a.tmps.size
  ·simp[h2]
  ·simp[h2]
 ·rw[if_neg h,if_neg (λe=>h e.1.symm)]
theorem cB{d:Nat}{v:Value}:(a.put (some d) v).tmps.size=a.tmps.size:=by simp[Act.put]
theorem Px{v:Value}:a.put none v=a:=rfl
theorem UL(b j:Nat):(⟨b,0,none⟩:Addr).add j=⟨b,j,none⟩:=by unfold Addr.add;split<;>simp_all
theorem yD{te:TypeId}(hso:∀w:World,(sizeOf te).run P w=.ok 1 w){b i:Nat}{n:Int}{cur:Array Value}{e:TypeId}{fr:Nat×Nat}(hblk:w.heap[b]? =some (.cells cur e fr))(hi:i<cur.size)(hf:cur.size<=fr.1):
 (storeVar te ⟨b,i,none⟩ (.int .u8 n)).run P w=.ok () (w.setRow b (cur.setIfInBounds i (.int .u8 n))):=by
 have hc:(Value.int .u8 n).cells= #[.int .u8 n]:=rfl;unfold storeVar;rw[Sem.run_bind,hso];have hcell:w.cell? ⟨b,i,none⟩=some cur[i]:=by simp[World.cell?,hblk,hi]
 obtain⟨lo,hi2⟩:=fr;have hfr:w.frozen? ⟨b,i,none⟩=false:=by
  simp only[World.frozen?,hblk];have hf:cur.size<=lo:=hf;simp;omega
 have hadd:(⟨b,i,none⟩:Addr).add 0=⟨b,i,none⟩:=rfl;have hst:(store ((⟨b,i,none⟩:Addr).add 0) (.int .u8 n)).run P w=.ok () (w.setRow b (cur.setIfInBounds i (.int .u8 n))):=by
  rw[hadd,run_store P w _ _ _ rfl,hcell];simp[hfr,setCell_eq_setRow w b i cur e (lo,hi2) _ hblk]
 simp only[hc,Result.andThen_ok,List.size_toArray,List.length_cons,List.length_nil,ne_eq,not_true_eq_false,if_false,storeCells,Sem.run_bind,hst];rfl
end
section
variable{P:Program} {T:TypeId->fE} {w0:cX} {X:Nat->Prop} {Q:LX->eD->dM->Prop} {env:eD} {H:dM}
theorem Kb(hT:fP P T){i1 i2 i3:Nat}{o1 o2 o3 p1 p2 p3 p4 p5 p6 p7 p8 p9 q1 q2 q3:Oper}{rest:Code}{ts tb te ti:TypeId}{fA:FuncId}{ta:Array TypeId}
 (us:P.underlying ts=some .string)(ub:P.underlying tb=some (.slice te))(ue:P.underlying te=some (.int .u8))(ui:P.underlying ti=some (.int .i64))(hso:∀w:World,(sizeOf te).run P w=.ok 1 w)
 (h1:o1.op=.move (.tmp 0))(d1:o1.dst=some 101)(g1:o1.guard=none)(h2:o2.op=.convert ts tb (.tmp 101))(d2:o2.dst=some 102)(g2:o2.guard=none)
 (h3:o3.op=.assign (.tmp 102))(d3:o3.dst=some 13)(g3:o3.guard=none)
 (k1:p1.op=.move (.tmp 13))(e1:p1.dst=some 103)(f1:p1.guard=none)(k2:p2.op=.move (.tmp 1))(e2:p2.dst=some 104)(f2:p2.guard=none)
 (k3:p3.op=.move (.tmp 13))(e3:p3.dst=some 105)(f3:p3.guard=none)(k4:p4.op=.call {callee:=.builtin .len,args:= #[.tmp 105],argTypes:= #[tb]})(e4:p4.dst=some 106)(f4:p4.guard=none)
 (k5:p5.op=.call {callee:=.value (.func fA),args:= #[.tmp 104,.tmp 106],argTypes:=ta})(e5:p5.dst=some 107)(f5:p5.guard=none)
 (k6:p6.op=.move (.tmp 3))(e6:p6.dst=some 108)(f6:p6.guard=none)(k7:p7.op=.convert ti te (.tmp 108))(e7:p7.dst=some 109)(f7:p7.guard=none)
 (k8:p8.op=.indexAddr tb (.tmp 103) (.tmp 107))(e8:p8.dst=some 110)(f8:p8.guard=none)(k9:p9.op=.store te (.tmp 110) (.tmp 109))(e9:p9.dst=none)(f9:p9.guard=none)
 (l1:q1.op=.move (.tmp 13))(m1:q1.dst=some 111)(n1:q1.guard=none)(l2:q2.op=.convert tb ts (.tmp 111))(m2:q2.dst=some 112)(n2:q2.guard=none)
 (l3:q3.op=.assign (.tmp 112))(m3:q3.dst=some 8)(n3:q3.guard=none)
 {s:List UInt8}{x y:Int}{k:Nat}(v0:env 0=.d (.str s))(v1:env 1=.d (.int .i64 x))(v3:env 3=.d (.int .i64 y))(hk:k<s.length)(hA:Ok P fA [.int .i64 x,.int .i64 s.length] ⟨.d (.int .i64 k),true⟩)
 (K:eW P 113 w0 X rest Q (cE (cE (cE (cE (cE (cE (cE (cE (cE (cE (cE (cE (cE (cE env 101 .junk) 102 .junk) 13 .junk) 103 .junk) 104 .junk) 105 .junk) 106 .junk) 107 .junk) 108 .junk) 109 .junk) 110 .junk) 111 .junk) 112 .junk) 8 (.d (.str (s.set k (UInt8.ofNat (IntKind.u8.wrap y).toNat))))) H):
 eW P 113 w0 X (.seq (.region i1 [o1,o2,o3].toArray false) (.seq (.region i2 [p1,p2,p3,p4,p5,p6,p7,p8,p9].toArray false) (.seq (.region i3 [q1,q2,q3].toArray false) rest))) Q env H:=by
 intro r hr β a w sm;have hN:a.tmps.size=113:=sm.size;have z0:a.eval (.tmp 0)=.string ⟨s.toArray⟩:=by have h:=sm.get (.tmp 0);rw[show kH env (.tmp 0)=env 0 from rfl,v0]at h;exact h.str
 have z1:a.eval (.tmp 1)=.int .i64 x:=by have h:=sm.get (.tmp 1);rw[show kH env (.tmp 1)=env 1 from rfl,v1]at h;exact h.int
 have z3:a.eval (.tmp 3)=.int .i64 y:=by have h:=sm.get (.tmp 3);rw[show kH env (.tmp 3)=env 3 from rfl,v3]at h;exact h.int
 obtain⟨S,hS⟩:∃S:ByteArray,S=⟨s.toArray⟩:=⟨_,rfl⟩;have hSl:S.size=s.length:=by rw[hS];simp[ByteArray.size]
 rw[<-hS]at z0;obtain⟨cap,hcap⟩:∃cap,grownCap w S.size 0 te=cap:=⟨_,rfl⟩;refine wpIn_seq (eZ (λa w h=>lB a w h) hr.seq1 ?_);refine bG g1 (v:=.string S) (w':=w) (by simp[execOp,h1,z0]) ?_;rw[d1];have hcv:=Lib.run_convert_string_bytes (P:=P) w ts tb te S us ub ue;rw[hcap]at hcv;refine bG g2 (v:=.slice (some ⟨w.heap.size,0,none⟩) S.size cap) (w':=Lib.bytesWorld w te S) (by simp[execOp,h2,bX,hN,hcv]) ?_;rw[d2];refine bG g3 (v:=.slice (some ⟨w.heap.size,0,none⟩) S.size cap) (w':=Lib.bytesWorld w te S) (by simp[execOp,h3,bX,cB,hN]) ?_;rw[d3];have hb1:=Lib.bytesWorld_at_new w te S;have hsz1:=Lib.bytesWorld_size w te S;have hold1:=Lib.bytesWorld_at_old w te S;have bel1:zN w.heap.size w (Lib.bytesWorld w te S):=by
  refine⟨?_,?_,?_,aE,λj hj=>hold1 j hj,?_⟩<;>(unfold Lib.bytesWorld World.freeze;split<;>first|rfl|exact Nat.le_succ w.drawn)
 obtain⟨C,hC⟩:∃C,Lib.bytesCells w te S=C:=⟨_,rfl⟩;rw[hC]at hb1;generalize Lib.bytesWorld w te S=w1 at hb1 hsz1 hold1 bel1|-;show Code.wpIn (RF r) 0 P _ _ _ _;refine wpIn_seq (eZ (λa w h=>lB a w h) hr.seq2.seq1 ?_);refine bG f1 (v:=.slice (some ⟨w.heap.size,0,none⟩) S.size cap) (w':=w1) (by simp[execOp,k1,bX,cB,hN]) ?_;rw[e1];refine bG f2 (v:=.int .i64 x) (w':=w1) (by simp[execOp,k2,bX,cB,hN,z1]) ?_;rw[e2];refine bG f3 (v:=.slice (some ⟨w.heap.size,0,none⟩) S.size cap) (w':=w1) (by simp[execOp,k3,bX,cB,hN]) ?_;rw[e3];refine bG f4 (v:=.int .i64 S.size) (w':=w1) (by simp[execOp,k4,resolve,invoke,builtin,bX,cB,hN,lA ub]) ?_;rw[e4];obtain⟨m1',_⟩:=sm.mem.grow bel1;have hcall:=hA.2 w1 (λ_=>False) [.int .i64 x,.int .i64 s.length] ⟨λ_ h=>h.elim,m1'.glob.anti λ_ h=>h.elim⟩ (.cons (.int _ _) (.cons (.int _ _) .nil));obtain⟨fn,hfn,hname,hbody⟩:=hA.1;refine Ka f5 (f:=fA) (vs:= #[.int .i64 x,.int .i64 s.length]) (w':=w1) ?_ (hcall.mono ?_)
 ·have hbn:fn.body.isNone=false:=by cases q:fn.body<;>simp_all
  simp only[execOp,k5,resolve,Deferred.ofValue,Sem.run_bind,Sem.run_pure,Result.andThen_ok,invoke,callFunc,run_program,hfn,hname,Bool.false_eq_true,if_false,hbn,show∀a:Act,a.eval (.func fA)=.func (.func fA) #[] #[] from λ_=>rfl];simp[bX,cB,hN,hSl]
 rintro _ w2 ⟨v,rfl,bel2,hret⟩;obtain⟨B,hret⟩:=hret;have hv:v=.int .i64 k:=by
  have hret:RD w2 _ (.int .i64 (k:Int)) v:=hret;cases hret;rfl
 subst hv;refine⟨.int .i64 k,rfl,?_⟩;rw[e5];refine bG f6 (v:=.int .i64 y) (w':=w2) (by simp[execOp,k6,bX,cB,hN,z3]) ?_;rw[e6];refine bG f7 (v:=.int .u8 (IntKind.u8.wrap y)) (w':=w2) (by simp[execOp,k7,bX,cB,hN,convert,run_underlying ui,run_underlying ue,Conv.intToInt]) ?_;rw[e7];refine bG f8 (v:=.pointer (some ⟨w.heap.size,k,none⟩)) (w':=w2) (by simp[execOp,k8,bX,cB,hN,Instr.indexAt,asIntOf,run_underlying ub,hso,hSl,hk,UL]) ?_;rw[e8];have hb2:w2.heap[w.heap.size]? =some (.cells C te (C.size,C.size+1)):=by rw[bel2.block _ aE];exact hb1
 have hCs:S.size<=C.size:=by rw[<-hC];unfold Lib.bytesCells;rw[Array.size_append,Array.size_map];exact Nat.le_add_right _ _
 obtain⟨C3,hC3⟩:∃C3,C.setIfInBounds k (.int .u8 (IntKind.u8.wrap y))=C3:=⟨_,rfl⟩;have hst:=yD (P:=P) (w:=w2) hso (n:=IntKind.u8.wrap y) hb2 (show k<C.size by omega) (Nat.le_refl _);rw[hC3]at hst;refine Cb f9 (w':=w2.setRow w.heap.size C3) (by simp[execOp,k9,bX,cB,hN,Instr.storeAt,Instr.sureAddr,hst]) ?_;rw[e9,Px];have hb3:=setRow_heap w2 w.heap.size C C3 te (C.size,C.size+1) hb2;have bel3:zN w.heap.size w (w2.setRow w.heap.size C3):=by
  refine⟨bel2.os.trans bel1.os,bel2.tape.trans bel1.tape,bel2.output.trans bel1.output,?_,λj hj=>?_,Nat.le_trans bel1.drawn bel2.drawn⟩
  ·have:=bel1.size;have:=bel2.size;simp[World.setRow];omega
  ·rw[setRow_other _ _ _ _ aE,bel2.block j aE,bel1.block j hj]
 generalize w2.setRow w.heap.size C3=w3 at hb3 bel3|-;show Code.wpIn (RF r) 0 P _ _ _ _;refine wpIn_seq (eZ (λa w h=>lB a w h) hr.seq2.seq2.seq1 ?_);refine bG n1 (v:=.slice (some ⟨w.heap.size,0,none⟩) S.size cap) (w':=w3) (by simp[execOp,l1,bX,cB,hN]) ?_;rw[m1];obtain⟨s2,hs2⟩:∃s2,s.set k (UInt8.ofNat (IntKind.u8.wrap y).toNat)=s2:=⟨_,rfl⟩;have hl2:s2.length=S.size:=by rw[<-hs2,List.length_set,hSl]
 have hbk:=run_convert_bytes_back (P:=P) w3 tb ts te ⟨w.heap.size,0,none⟩ cap s2 ub ue us (λj hj=>by
  rw[UL,cell_of_row w3 _ j _ te _ hb3,<-hC3,<-hC,Array.getElem?_setIfInBounds];have hjs:j<s.length:=aE;have hu:0<=IntKind.u8.wrap y/\IntKind.u8.wrap y<256:=by
   unfold IntKind.wrap;simp[IntKind.bits,IntKind.signed];omega
  subst hs2;rw[List.getElem_set];by_cases e:k=j
  ·subst e;rw[if_pos rfl,if_pos (by rw[hC];omega),if_pos rfl];have hn:(UInt8.ofNat (IntKind.u8.wrap y).toNat).toNat=(IntKind.u8.wrap y).toNat:=by rw[UInt8.toNat_ofNat'];omega
   rw[hn,Int.toNat_of_nonneg hu.1]
  ·rw[if_neg e,if_neg e];simp[Lib.bytesCells,Array.getElem?_append,hS,hjs])
 rw[hl2]at hbk;refine bG n2 (v:=.string ⟨s2.toArray⟩) (w':=w3) (by simp[execOp,l2,bX,cB,hN,hbk]) ?_;rw[m2];refine bG n3 (v:=.string ⟨s2.toArray⟩) (w':=w3) (by simp[execOp,l3,bX,cB,hN]) ?_;rw[m3];rw[hs2]at K;obtain⟨m3',g3'⟩:=sm.mem.grow bel3;have ok:∀d,d<113->BT 113 (some d):=λd h=>h;have t1:=sm.put m3' g3' (.junk (.string S)) (ok 101 bC);have t2:=t1.put m3' eT.refl (.junk (.slice (some ⟨w.heap.size,0,none⟩) S.size cap)) (ok 102 bC);have t3:=t2.put m3' eT.refl (.junk (.slice (some ⟨w.heap.size,0,none⟩) S.size cap)) (ok 13 bC);have t4:=t3.put m3' eT.refl (.junk (.slice (some ⟨w.heap.size,0,none⟩) S.size cap)) (ok 103 bC);have t5:=t4.put m3' eT.refl (.junk (.int .i64 x)) (ok 104 bC);have t6:=t5.put m3' eT.refl (.junk (.slice (some ⟨w.heap.size,0,none⟩) S.size cap)) (ok 105 bC);have t7:=t6.put m3' eT.refl (.junk (.int .i64 S.size)) (ok 106 bC);have t8:=t7.put m3' eT.refl (.junk (.int .i64 k)) (ok 107 bC);have t9:=t8.put m3' eT.refl (.junk (.int .i64 y)) (ok 108 bC);have t10:=t9.put m3' eT.refl (.junk (.int .u8 (IntKind.u8.wrap y))) (ok 109 bC);have t11:=t10.put m3' eT.refl (.junk (.pointer (some ⟨w.heap.size,k,none⟩))) (ok 110 bC);have t12:=t11.put m3' eT.refl (.junk (.slice (some ⟨w.heap.size,0,none⟩) S.size cap)) (ok 111 bC);have t13:=t12.put m3' eT.refl (.junk (.string ⟨s2.toArray⟩)) (ok 112 bC);have t14:=t13.put m3' eT.refl (wT s2) (ok 8 bC);have K:=K r hr.seq2.seq2.seq2 β _ w3 t14;exact K
end
end
section
open Go.RowKit
def Kc(i:Nat)(c:UInt8):UInt8:=if c=35 then UInt8.ofNat (48+i)else c
def lU(s:List UInt8)(i:Nat):List UInt8:=s.map (Kc i)
section
variable{P:Program} {T:TypeId->fE} {w0:cX} {X:Nat->Prop} {a:Act} {w:World} {ops:Array Oper} {Q:Exit->Act->World->Prop} {l:List Oper} {o:Oper}
theorem lD{d:Option Nat}{v:Value}:(a.put d v).defers=a.defers:=by cases d<;>rfl
theorem tI(hg:o.guard=none){op:BinOp}{t u:TypeId}{x y:Operand}(ho:o.op=.binOp op t x y u){k:IntKind}{m n:Int}(hx:a.eval x=.int k m)(hy:a.eval y=.int k n){v:Value}
 (hr:(binOp op t (.int k m) (.int k n)).run P w=.ok v w)(hk:wpList P ops Q l (a.put o.dst v) w):wpList P ops Q (o::l) a w:=by
 refine bG hg (v:=v) (w':=w) ?_ hk;simp only[execOp,ho,hx,hy];rw[Sem.run_bind,Sem.run_bind,AR];simp only[Result.andThen_ok,hr,Sem.run_pure]
theorem UM(t:TypeId){m n:Int}:(binOp .lss t (.int .i64 m) (.int .i64 n)).run P w=.ok (.bool (decide (m<n))) w:=by simp[binOp,Op.intCmp]
theorem UN(t:TypeId){m n:Int}:(binOp .eql t (.int .u8 m) (.int .u8 n)).run P w=.ok (.bool (decide (m=n))) w:=by simp[binOp,Op.intCmp,Bool.beq_eq_decide_eq]
theorem Kd(t:TypeId){m n:Int}(h: -9223372036854775808<=m+n/\m+n<=9223372036854775807):(binOp .add t (.int .i64 m) (.int .i64 n)).run P w=.ok (.int .i64 (m+n)) w:=by simp[binOp,Op.intArith,IntWalk.i64_in _ h]
end
def nD(o:Oper)(op:Op)(dst:Option Nat):Prop:=o.op=op/\o.dst=dst/\o.guard=none
structure Py(s:List UInt8)(i m k B cap:Nat)(te:TypeId)(w00:World)(df:List Deferred)(a:Act)(w:World):Prop where
 size:a.tmps.size=28
 defers:a.defers=df
 e1:a.eval (.tmp 1)=.int .i64 i
 e5:a.eval (.tmp 5)=.slice (some ⟨B,0,none⟩) s.length cap
 e6:a.eval (.tmp 6)=.int .i64 k
 row:∃C:Array Value,w.heap[B]? =some (.cells C te (C.size,C.size+1))/\s.length<=C.size/\∀j (hj:j<s.length),C[j]? =some (.int .u8 (((if j<m then Kc i s[j]else s[j]):UInt8).toNat:Nat))
 bel:zN w00.heap.size w00 w
section
variable{P:Program} {T:TypeId->fE} {w0:cX} {X:Nat->Prop} {Q:LX->eD->dM->Prop} {env:eD} {H:dM}
theorem RB(hT:fP P T){i1 i2 i3 i4 i5 i6 i7:Nat}{a1 a2 a3 b1 c1 c2 c3 c4 d1 d2 d3 d4 d5 e1 e2 e3 e4 e5 e6 e7 f1 f2 f3 g1 g2 g3:Oper}{ts tb te ti:TypeId}{u1 u2 u3 u4:TypeId}
 (us:P.underlying ts=some .string)(ub:P.underlying tb=some (.slice te))(ue:P.underlying te=some (.int .u8))(ui:P.underlying ti=some (.int .i64))(hso:∀w:World,(sizeOf te).run P w=.ok 1 w)
 (n1:(T te).k.isNone=false)(n2:(T te).size=1)(n3:(T te).k.agg=false)
 (A1:nD a1 (.move (.tmp 0)) (some 7))(A2:nD a2 (.convert ts tb (.tmp 7)) (some 8))(A3:nD a3 (.assign (.tmp 8)) (some 5))
 (B1:nD b1 (.assign (.const (.int .i64 0))) (some 6))
 (C1:nD c1 (.move (.tmp 6)) (some 9))(C2:nD c2 (.move (.tmp 5)) (some 10))(C3:nD c3 (.call {callee:=.builtin .len,args:= #[.tmp 10],argTypes:= #[tb]}) (some 11))(C4:nD c4 (.binOp .lss u1 (.tmp 9) (.tmp 11) u2) (some 12))
 (D1:nD d1 (.move (.tmp 5)) (some 15))(D2:nD d2 (.move (.tmp 6)) (some 16))(D3:nD d3 (.indexAddr tb (.tmp 15) (.tmp 16)) (some 17))(D4:nD d4 (.load te (.tmp 17)) (some 18))(D5:nD d5 (.binOp .eql u3 (.tmp 18) (.const (.int .u8 35)) u4) (some 19))
 (E1:nD e1 (.move (.tmp 5)) (some 20))(E2:nD e2 (.move (.tmp 6)) (some 21))(E3:nD e3 (.move (.tmp 1)) (some 22))(E4:nD e4 (.binOp .add u1 (.const (.int .i64 48)) (.tmp 22) u2) (some 23))(E5:nD e5 (.convert ti te (.tmp 23)) (some 24))
 (E6:nD e6 (.indexAddr tb (.tmp 20) (.tmp 21)) (some 25))(E7:nD e7 (.store te (.tmp 25) (.tmp 24)) none)
 (F1:nD f1 (.move (.tmp 6)) (some 13))(F2:nD f2 (.binOp .add u1 (.tmp 13) (.const (.int .i64 1)) u2) (some 14))(F3:nD f3 (.assign (.tmp 14)) (some 6))
 (G1:nD g1 (.move (.tmp 5)) (some 26))(G2:nD g2 (.convert tb ts (.tmp 26)) (some 27))(G3:nD g3 (.assign (.tmp 27)) (some 4))
 {s:List UInt8}{i:Nat}(v0:env 0=.d (.str s))(v1:env 1=.d (.int .i64 i))(hi:i<=9)(hs:s.length<=1000000000)
 (K:Q .ret (λt=>if t=4 then .d (.str (lU s i))else .junk) H):
 eW P 28 w0 X (.seq (.region i1 [a1,a2,a3].toArray false) (.seq (.seq (.region i2 [b1].toArray false) (.block 0 (.loop (.seq (.seq (.region i3 [c1,c2,c3,c4].toArray false) (.cond (.tmp 12) .skip (.exit 0)))
  (.seq (.block 1 (.seq (.region i5 [d1,d2,d3,d4,d5].toArray false) (.cond (.tmp 19) (.region i6 [e1,e2,e3,e4,e5,e6,e7].toArray false) .skip))) (.region i4 [f1,f2,f3].toArray false)))))) (.seq (.region i7 [g1,g2,g3].toArray false) .ret))) Q env H:=by
 intro r hr β a w sm;have hN:a.tmps.size=28:=sm.size;have z0:a.eval (.tmp 0)=.string ⟨s.toArray⟩:=by have h:=sm.get (.tmp 0);rw[show kH env (.tmp 0)=env 0 from rfl,v0]at h;exact h.str
 have z1:a.eval (.tmp 1)=.int .i64 i:=by have h:=sm.get (.tmp 1);rw[show kH env (.tmp 1)=env 1 from rfl,v1]at h;exact h.int
 obtain⟨S,hS⟩:∃S:ByteArray,S=⟨s.toArray⟩:=⟨_,rfl⟩;have hSl:S.size=s.length:=by rw[hS];simp[ByteArray.size]
 rw[<-hS]at z0;obtain⟨cap,hcap⟩:∃cap,grownCap w S.size 0 te=cap:=⟨_,rfl⟩;refine wpIn_seq (eZ (λa w h=>lB a w h) hr.seq1 ?_);refine bG A1.2.2 (v:=.string S) (w':=w) (by simp[execOp,A1.1,z0]) ?_;rw[A1.2.1];have hcv:=Lib.run_convert_string_bytes (P:=P) w ts tb te S us ub ue;rw[hcap]at hcv;refine bG A2.2.2 (v:=.slice (some ⟨w.heap.size,0,none⟩) S.size cap) (w':=Lib.bytesWorld w te S) (by simp[execOp,A2.1,bX,hN,hcv]) ?_;rw[A2.2.1];refine bG A3.2.2 (v:=.slice (some ⟨w.heap.size,0,none⟩) S.size cap) (w':=Lib.bytesWorld w te S) (by simp[execOp,A3.1,bX,cB,hN]) ?_;rw[A3.2.1];have hb1:=Lib.bytesWorld_at_new w te S;have hsz1:=Lib.bytesWorld_size w te S;have hold1:=Lib.bytesWorld_at_old w te S;have bel1:zN w.heap.size w (Lib.bytesWorld w te S):=by
  refine⟨?_,?_,?_,aE,λj hj=>hold1 j hj,?_⟩<;>(unfold Lib.bytesWorld World.freeze;split<;>first|rfl|exact Nat.le_succ w.drawn)
 have hcells:∀j (hj:j<s.length),(Lib.bytesCells w te S)[j]? =some (.int .u8 ((s[j]:UInt8).toNat:Nat)):=λj hj=>by
  have hj2:j<S.data.size:=by have:S.data.size=S.size:=rfl;omega
  unfold Lib.bytesCells;rw[Array.getElem?_append_left (by simpa using hj2)];simp[hS,hj]
 have hCS:s.length<=(Lib.bytesCells w te S).size:=by unfold Lib.bytesCells;rw[Array.size_append,Array.size_map];have:S.data.size=S.size:=rfl;omega
 generalize Lib.bytesCells w te S=C at hb1 hcells hCS;generalize Lib.bytesWorld w te S=w1 at hb1 hsz1 hold1 bel1|-;show Code.wpIn (RF r) 0 P _ _ _ _;refine wpIn_seq (wpIn_seq (eZ (λa w h=>lB a w h) hr.seq2.seq1.seq1 ?_));refine bG B1.2.2 (v:=.int .i64 0) (w':=w1) (by simp[execOp,B1.1,show∀a:Act,∀v,a.eval (.const v)=v from λ_ _=>rfl]) ?_;rw[B1.2.1];show Code.wpIn (RF r) 0 P _ _ _ _;have hrl:=hr.seq2.seq1.seq2.block.loop;refine wpIn_block (uZ (λn a' w'=>∃k,n=s.length-k/\k<=s.length/\Py s i k k w.heap.size cap te w a.defers a' w') s.length ⟨0,rfl,Nat.zero_le _,⟨?_,?_,?_,?_,?_,⟨C,hb1,hCS,λj hj=>by rw[if_neg (Nat.not_lt_zero _)];exact hcells j hj⟩,bel1⟩⟩ ?_)
 ·simp[cB,hN]
 ·simp[lD]
 ·simp[bX,z1]
 ·simp[bX,cB,hN,hSl]
 ·simp[bX,cB,hN]
 rintro n b w2 ⟨k,rfl,hk,J⟩;obtain⟨jN,jd,j1,j5,j6,⟨C2',jb,jC,jc⟩,jbel⟩:=J;refine wpIn_seq (wpIn_seq (eZ (λa w h=>lB a w h) hrl.seq1.seq1 ?_));refine bG C1.2.2 (v:=.int .i64 k) (w':=w2) (by simp[execOp,C1.1,j6]) ?_;rw[C1.2.1];refine bG C2.2.2 (v:=.slice (some ⟨w.heap.size,0,none⟩) s.length cap) (w':=w2) (by simp[execOp,C2.1,bX,j5]) ?_;rw[C2.2.1];refine bG C3.2.2 (v:=.int .i64 s.length) (w':=w2) (by simp[execOp,C3.1,resolve,invoke,builtin,bX,cB,jN,lA ub]) ?_;rw[C3.2.1];refine tI C4.2.2 C4.1 (k:=.i64) (m:=k) (n:=s.length) (by simp[bX,cB,jN]) (by simp[bX,cB,jN]) (UM _) ?_;rw[C4.2.1];show Code.wpIn (RF r) 0 P _ _ _ _;refine wpIn_cond (by simp[bX,cB,jN]:Act.eval _ _=.bool (decide ((k:Int)<(s.length:Int)))) ?_;by_cases hks:k<s.length
 ·rw[decide_eq_true aE];refine wpIn_skip ?_;show Code.wpIn (RF r) 0 P _ _ _ _;obtain⟨b2,hb2⟩:∃b2,(((b.put (some 9) (.int .i64 k)).put (some 10) (.slice (some ⟨w.heap.size,0,none⟩) s.length cap)).put (some 11) (.int .i64 s.length)).put (some 12) (.bool (decide ((k:Int)<(s.length:Int))))=b2:=⟨_,rfl⟩;have j2:Py s i k k w.heap.size cap te w a.defers b2 w2:=by
   rw[<-hb2];exact⟨by simp[cB,jN],by simp[lD,jd],by simp[bX,j1],by simp[bX,j5],by simp[bX,j6],⟨C2',jb,jC,jc⟩,jbel⟩
  rw[decide_eq_true (show(k:Int)<(s.length:Int)by omega)]at hb2;rw[hb2];clear hb2;obtain⟨jN2,jd2,j12,j52,j62, -, -⟩:=j2;have tail:∀b' w',Py s i (k+1) k w.heap.size cap te w a.defers b' w'->(Code.region i4 [f1,f2,f3].toArray false).wpIn (RF r) 0 P (Exit.then (λa' w'=>∃m,m<s.length-k/\∃k,m=s.length-k/\k<=s.length/\Py s i k k w.heap.size cap te w a.defers a' w') (Exit.inBlock 0 (Exit.then (λa' w'=>Code.wpIn (RF r) 0 P (.seq (.region i7 [g1,g2,g3].toArray false) .ret) (λe a' w'=>∃x env' H' β',gM e x/\mC 28 w0 X env' H' β' a' w'/\Q x env' H') a' w') (λe a' w'=>∃x env' H' β',gM e x/\mC 28 w0 X env' H' β' a' w'/\Q x env' H')))) b' w':=by
   rintro b' w' ⟨t1,t2,t3,t4,t5,t6,t7⟩;refine eZ (λa w h=>lB a w h) hrl.seq2.seq2 ?_;refine bG F1.2.2 (v:=.int .i64 k) (w':=w') (by simp[execOp,F1.1,t5]) ?_;rw[F1.2.1];refine tI F2.2.2 F2.1 (k:=.i64) (m:=k) (n:=1) (by simp[bX,cB,t1]) rfl (Kd _ aE) ?_;rw[F2.2.1];refine bG F3.2.2 (v:=.int .i64 (k+1)) (w':=w') (by simp[execOp,F3.1,bX,cB,t1]) ?_;rw[F3.2.1];show∃m,_;exact⟨s.length-(k+1),aE,k+1,rfl,hks,⟨by simp[cB,t1],by simp[lD,t2],by simp[bX,t3],by simp[bX,t4],by simp[bX,cB,t1],t6,t7⟩⟩
  refine wpIn_seq (wpIn_block (wpIn_seq (eZ (λa w h=>lB a w h) hrl.seq2.seq1.block.seq1 ?_)));refine bG D1.2.2 (v:=.slice (some ⟨w.heap.size,0,none⟩) s.length cap) (w':=w2) (by simp[execOp,D1.1,j52]) ?_;rw[D1.2.1];refine bG D2.2.2 (v:=.int .i64 k) (w':=w2) (by simp[execOp,D2.1,bX,j62]) ?_;rw[D2.2.1];refine bG D3.2.2 (v:=.pointer (some ⟨w.heap.size,k,none⟩)) (w':=w2) (by simp[execOp,D3.1,bX,cB,jN2,Instr.indexAt,asIntOf,run_underlying ub,hso,hks,UL]) ?_;rw[D3.2.1];obtain⟨x,hx⟩:∃x,s[k]=x:=⟨_,rfl⟩;have hxk:=jc k hks;rw[if_neg (Nat.lt_irrefl k),hx]at hxk;have hld:=uR (P:=P) (w:=w2) hT n1 (b:=w.heap.size) (off:=k) (us:=[.int .u8 (x.toNat:Nat)]) (by simp[n2]) (λ_=>n2) (λj u hj=>by
   cases j with
   |zero=>
    have hj:some (Value.int .u8 (x.toNat:Nat))=some u:=hj;rw[<-hj];show w2.cell? ⟨w.heap.size,k,none⟩=_;simp only[World.cell?,jb];exact hxk
   |succ j=>cases j<;>cases hj)
  rw[n3]at hld;refine bG D4.2.2 (v:=.int .u8 (x.toNat:Nat)) (w':=w2) (by
   simp only[execOp,D4.1,Instr.loadAt,Instr.sureAddr,bX,cB,jN2,Sem.run_bind,Sem.run_pure,Result.andThen_ok];simp[hld]) ?_
  rw[D4.2.1];refine tI D5.2.2 D5.1 (k:=.u8) (m:=(x.toNat:Nat)) (n:=35) (by simp[bX,cB,jN2]) rfl (UN _) ?_;rw[D5.2.1];show Code.wpIn (RF r) 0 P _ _ _ _;obtain⟨q,hq⟩:∃q,decide (((x.toNat:Nat):Int)=35)=q:=⟨_,rfl⟩;rw[hq];obtain⟨b3,hb3⟩:∃b3,((((b2.put (some 15) (.slice (some ⟨w.heap.size,0,none⟩) s.length cap)).put (some 16) (.int .i64 k)).put (some 17) (.pointer (some ⟨w.heap.size,k,none⟩))).put (some 18) (.int .u8 (x.toNat:Nat))).put (some 19) (.bool q)=b3:=⟨_,rfl⟩;have kN:b3.tmps.size=28:=by rw[<-hb3];simp[cB,jN2]
  have kd:b3.defers=a.defers:=by rw[<-hb3];simp[lD,jd2]
  have k1:b3.eval (.tmp 1)=.int .i64 i:=by rw[<-hb3];simp[bX,j12]
  have k5:b3.eval (.tmp 5)=.slice (some ⟨w.heap.size,0,none⟩) s.length cap:=by rw[<-hb3];simp[bX,j52]
  have k6:b3.eval (.tmp 6)=.int .i64 k:=by rw[<-hb3];simp[bX,j62]
  have k19:b3.eval (.tmp 19)=.bool q:=by rw[<-hb3];simp[bX,cB,jN2]
  rw[hb3];clear hb3;refine wpIn_cond k19 ?_;cases q with
  |true=>
   have hx35:x=35:=by
    have:x.toNat=35:=by have:=of_decide_eq_true hq;omega
    exact UInt8.toNat_inj.1 (by rw[this];rfl)
   refine eZ (λa w h=>lB a w h) hrl.seq2.seq1.block.seq2.cond1 ?_;refine bG E1.2.2 (v:=.slice (some ⟨w.heap.size,0,none⟩) s.length cap) (w':=w2) (by simp[execOp,E1.1,k5]) ?_;rw[E1.2.1];refine bG E2.2.2 (v:=.int .i64 k) (w':=w2) (by simp[execOp,E2.1,bX,k6]) ?_;rw[E2.2.1];refine bG E3.2.2 (v:=.int .i64 i) (w':=w2) (by simp[execOp,E3.1,bX,k1]) ?_;rw[E3.2.1];refine tI E4.2.2 E4.1 (k:=.i64) (m:=48) (n:=i) rfl (by simp[bX,cB,kN]) (Kd _ aE) ?_;rw[E4.2.1];refine bG E5.2.2 (v:=.int .u8 (IntKind.u8.wrap (48+i))) (w':=w2) (by simp[execOp,E5.1,bX,cB,kN,convert,run_underlying ui,run_underlying ue,Conv.intToInt]) ?_;rw[E5.2.1];refine bG E6.2.2 (v:=.pointer (some ⟨w.heap.size,k,none⟩)) (w':=w2) (by simp[execOp,E6.1,bX,cB,kN,Instr.indexAt,asIntOf,run_underlying ub,hso,hks,UL]) ?_;rw[E6.2.1];have hst:=yD (P:=P) (w:=w2) hso (n:=IntKind.u8.wrap (48+i)) jb (show k<C2'.size by omega) (Nat.le_refl _);obtain⟨C4',hC4⟩:∃C4',C2'.setIfInBounds k (.int .u8 (IntKind.u8.wrap (48+i)))=C4':=⟨_,rfl⟩;rw[hC4]at hst;refine Cb E7.2.2 (w':=w2.setRow w.heap.size C4') (by simp[execOp,E7.1,bX,cB,kN,Instr.storeAt,Instr.sureAddr,hst]) ?_;rw[E7.2.1,Px];refine tail _ _ ⟨by simp[cB,kN],by simp[lD,kd],by simp[bX,k1],by simp[bX,k5],by simp[bX,k6],⟨C4',?_,?_,λj hj=>?_⟩,?_⟩
   ·have:=setRow_heap w2 w.heap.size C2' C4' te (C2'.size,C2'.size+1) jb;have hsz:C4'.size=C2'.size:=by rw[<-hC4];simp
    rw[hsz];exact this
   ·rw[<-hC4];simpa using jC
   ·rw[<-hC4,Array.getElem?_setIfInBounds];by_cases e:k=j
    ·subst e;rw[if_pos rfl,if_pos aE,if_pos (Nat.lt_succ_self _),hx,hx35];have:Kc i 35=UInt8.ofNat (48+i):=rfl;rw[this,UInt8.toNat_ofNat'];have h2:IntKind.u8.wrap (48+(i:Int))=(((48+i)%256:Nat):Int):=by
      unfold IntKind.wrap;simp[IntKind.bits,IntKind.signed]
     rw[h2]
    ·rw[if_neg e,jc j hj];by_cases h:j<k
     ·rw[if_pos h,if_pos aE]
     ·rw[if_neg h,if_neg aE]
   ·refine⟨jbel.os,jbel.tape,jbel.output,?_,λj hj=>?_,jbel.drawn⟩
    ·have:=jbel.size;simp[World.setRow];omega
    ·rw[setRow_other _ _ _ _ aE];exact jbel.block j hj
  |false=>
   have hx35:x≠35:=by
    rintro rfl;simp at hq
   refine wpIn_skip ?_;refine tail _ _ ⟨kN,kd,k1,k5,k6,⟨C2',jb,jC,λj hj=>?_⟩,jbel⟩;by_cases e:k=j
   ·subst e;rw[if_pos (Nat.lt_succ_self _),hx,hxk];have:Kc i x=x:=by unfold Kc;rw[if_neg hx35]
    rw[this]
   ·rw[jc j hj];by_cases h:j<k
    ·rw[if_pos h,if_pos aE]
    ·rw[if_neg h,if_neg aE]
 ·rw[decide_eq_false aE];have hk':k=s.length:=aE;subst hk';refine wpIn_exit ?_;show Code.wpIn (RF r) 0 P _ _ _ _;refine wpIn_seq (eZ (λa w h=>lB a w h) hr.seq2.seq2.seq1 ?_);refine bG G1.2.2 (v:=.slice (some ⟨w.heap.size,0,none⟩) s.length cap) (w':=w2) (by simp[execOp,G1.1,bX,j5]) ?_;rw[G1.2.1];have hbk:=run_convert_bytes_back (P:=P) w2 tb ts te ⟨w.heap.size,0,none⟩ cap (lU s i) ub ue us (λj hj=>by
   have hj':j<s.length:=by simpa [lU]using hj
   rw[UL];simp only[World.cell?,jb];rw[jc j hj',if_pos hj'];simp[lU])
  have hfl:(lU s i).length=s.length:=by simp[lU]
  rw[hfl]at hbk;refine bG G2.2.2 (v:=.string ⟨(lU s i).toArray⟩) (w':=w2) (by simp[execOp,G2.1,bX,cB,jN,hbk]) ?_;rw[G2.2.1];refine bG G3.2.2 (v:=.string ⟨(lU s i).toArray⟩) (w':=w2) (by simp[execOp,G3.1,bX,cB,jN]) ?_;rw[G3.2.1];show Code.wpIn (RF r) 0 P _ _ _ _;have fin:∀b4:Act,b4.tmps.size=28->b4.defers=a.defers->mC 28 w0 X (λt=>if t=4 then .d (.str (lU s i))else .junk) H β (b4.put (some 4) (.string ⟨(lU s i).toArray⟩)) w2:=by
   intro b4 hb4 hd4;obtain⟨m',g'⟩:=sm.mem.grow jbel;refine⟨?_,?_,m'.ext,m'.xold,m'.fresh,m'.inj,λt=>?_,m'.obj,m'.pin⟩
   ·rw[lD,hd4];exact g'.marks sm.defers
   ·simp[cB,hb4]
   ·show R w2 _ β H _ ((b4.put (some 4) _).eval (.tmp t));rw[bX];by_cases e:t=4
    ·subst e;rw[if_pos rfl,if_pos (And.intro rfl aE)];exact wT _
    ·rw[if_neg e];exact .junk _
  exact wpIn_ret ⟨.ret,_,H,β,trivial,fin _ (by simp[cB,jN]) (by simp[lD,jd]),K⟩
end
end
section
open Go.RowKit Go.Maps
open Go.ChangeMaps (setBlock)
theorem zY:∀(l:List MapEntry) (j:Nat) (hj:j<l.length),(l.map (·.born)).Nodup->l.filter (λx=>decide (x.born≠l[j].born))=l.eraseIdx j
 |a::l,0,_,h=>by
  have hn:=(List.nodup_cons.1 h).1;rw[List.getElem_cons_zero,List.eraseIdx_cons_zero,List.filter_cons_of_neg aM];rw[List.filter_eq_self];intro x hx;simp only[ne_eq,decide_eq_true_eq];intro e;exact hn (List.mem_map.2 ⟨x,hx,e⟩)
 |a::l,j+1,hj,h=>by
  have hj':j<l.length:=by simpa using hj
  have hn:=(List.nodup_cons.1 h).1;rw[List.getElem_cons_succ,List.eraseIdx_cons_succ,List.filter_cons_of_pos,zY l j hj' (List.nodup_cons.1 h).2];simp only[ne_eq,decide_eq_true_eq];intro e;exact hn (List.mem_map.2 ⟨l[j],List.getElem_mem hj',e.symm⟩)
theorem RC(arr:Array MapEntry)(seen:Array Nat)(n:Nat):(arr.filter λx=> !(seen.push n).contains x.born).toList=(arr.filter λx=> !seen.contains x.born).toList.filter λx=>decide (x.born≠n):=by
 rw[Array.toList_filter,Array.toList_filter,List.filter_filter];congr 1;funext x;simp[Bool.and_comm]
theorem UO{es:Array MapEntry}{clock:Nat}(h:gD es clock):(es.toList.map (·.born)).Nodup:=by
 rw[List.Nodup,List.pairwise_map,List.pairwise_iff_getElem];intro i j hi hj hij e;have:=h.2 i j _ _ aM aM e;omega
section
variable{P:Program} {T:TypeId->fE} {N:Nat} {w0:cX} {X:Nat->Prop} {Q:LX->eD->dM->Prop} {env:eD} {H:dM}
theorem HZ{r9 r10 bx b1 it d1 d2 d3 d4 d5 id:Nat}{o1 o2 p1 p2 p3:Oper}{rest:Code}{ks vs:List DV}
 (h1:o1.op=.next (.tmp it) false)(e1:o1.dst=some d1)(g1:o1.guard=none)(h2:o2.op=.extract (.tmp d1) 0)(e2:o2.dst=some d2)(g2:o2.guard=none)
 (k1:p1.op=.entry (.tmp it))(f1:p1.dst=some d3)(i1:p1.guard=none)(k2:p2.op=.extract (.tmp d3) 0)(f2:p2.dst=some d4)(i2:p2.guard=none)
 (k3:p3.op=.assign (.tmp d4))(f3:p3.dst=some d5)(i3:p3.guard=none)
 (hN:d1<N/\d2<N/\d3<N/\d4<N/\d5<N)(hd:it≠d1/\it≠d2)(hv:env it=.it id)(hH:H id=.iter false ks vs)
 (hDone:ks=[]->Q (.exit bx) (cE (cE env d1 .junk) d2 .junk) H)
 (hMore:∀(j:Nat) (hj:j<ks.length),eW P N w0 X rest (uY b1 Q) (cE (cE (cE (cE (cE env d1 .junk) d2 .junk) d3 .junk) d4 .junk) d5 (.d ks[j])) (cE H id (.iter false (ks.eraseIdx j) (vs.eraseIdx j)))):
 eW P N w0 X (.seq (.region r9 [o1,o2].toArray false) (.seq (.cond (.tmp d2) .skip (.exit bx)) (.block b1 (.seq (.region r10 [p1,p2,p3].toArray false) rest)))) Q env H:=by
 intro r hr β a w s;have hz:a.tmps.size=N:=s.size;have hob:=s.obj id;unfold dO at hob;rw[hH]at hob;obtain⟨b,bm,arr,clock0,seen,clock,hb,hblk,hnE,hbmlt,hbm,hborn,hlast,hkl,hvl,hkey,hval⟩:=hob;subst hlast;have hit:a.eval (.tmp it)=.pointer (some ⟨b,0,none⟩):=by
  have h:=s.get (.tmp it);rw[show kH env (.tmp it)=env it from rfl,hv]at h;generalize a.eval (.tmp it)=v at h;cases h with
  |it _ b' fz ks' vs' hH' hb'=>rw[hb]at hb';injection hb' with e;subst e;rfl
  |itdead _ _ hH'=>rw[hH]at hH';cases hH'
 have hbmb:bm≠b:=λe=>by subst e;rw[hblk]at hbm;cases hbm
 have hold:∀x∈arr.toList,x.born<clock:=λx hx=>by
  obtain⟨i,hi,hix⟩:=List.getElem_of_mem hx;exact hborn.1 i x (by rw[<-hix];simp)
 have ok:∀d,d<N->BT N (some d):=λd h=>h;refine wpIn_seq (eZ (λa w h=>lB a w h) hr.seq1 ?_);rcases run_next_at (P:=P) w o1.type b bm clock clock seen arr clock hblk hbm hold (Nat.le_refl _)with⟨h0,hrun⟩|⟨e,he,w1,hal,hrun⟩
 ·refine bG g1 (v:=.tuple #[.bool false]) (w':=w) (by simp[execOp,h1,hit,hrun]) ?_;rw[e1];refine bG g2 (v:=.bool false) (w':=w) (by simp[execOp,h2,bX,hz,hN.1,Instr.extract]) ?_;rw[e2];have t1:=s.put s.mem eT.refl (.junk (.tuple #[.bool false])) (ok d1 hN.1);have t2:=t1.put s.mem eT.refl (.junk (.bool false)) (ok d2 hN.2.1);show Code.wpIn (RF r) 0 P _ _ _ _;refine wpIn_seq (wpIn_cond_false (by simp[bX,cB,hz,hN.2.1]) (wpIn_exit ?_));refine⟨.exit bx,_,_,β,rfl,t2,hDone (List.eq_nil_of_length_eq_zero ?_)⟩;rw[hkl];exact h0
 ·refine bG g1 (v:=.tuple #[.bool true,e.key,e.val]) (w':=setBlock w1 b (.mapIter (some bm) clock (seen.push e.born) clock)) (by simp[execOp,h1,hit,hrun]) ?_;rw[e1];refine bG g2 (v:=.bool true) (w':=setBlock w1 b (.mapIter (some bm) clock (seen.push e.born) clock)) (by simp[execOp,h2,bX,hz,hN.1,Instr.extract]) ?_;rw[e2];obtain⟨w2,hw2⟩:∃w2,setBlock w1 b (.mapIter (some bm) clock (seen.push e.born) clock)=w2:=⟨_,rfl⟩;rw[hw2];obtain⟨hos,htape,hout,hdr,hheap⟩:w1.os=w.os/\w1.tape=w.tape/\w1.output=w.output/\w.drawn<=w1.drawn/\w1.heap=w.heap:=by
   rcases hal with rfl|rfl
   ·exact⟨rfl,rfl,rfl,Nat.le_refl _,rfl⟩
   ·exact⟨rfl,rfl,rfl,Nat.le_succ _,rfl⟩
  have hblt:b<w.heap.size:=(Array.getElem?_eq_some_iff.1 hblk).1;have hnew:w2.heap[b]? =some (.mapIter (some bm) clock (seen.push e.born) clock):=by
   rw[<-hw2];simp[setBlock,hheap,hblt]
  have hoth:∀k,k≠b->w2.heap[k]? =w.heap[k]? :=λk hk=>by
   rw[<-hw2];simp only[setBlock,hheap];exact Array.getElem?_setIfInBounds_ne (λe=>hk e.symm)
  have hsz:w2.heap.size=w.heap.size:=by rw[<-hw2];simp[setBlock,hheap]
  have hbm2:w2.heap[bm]? =some (.map arr clock):=(hoth bm hbmb).trans hbm;obtain⟨L,hL⟩:∃L,(arr.filter λx=> !seen.contains x.born).toList=L:=⟨_,rfl⟩;have heL:e∈L:=by rw[<-hL];exact he
  have hem:e∈arr.toList:=by
   rw[<-hL,Array.toList_filter]at heL;exact(List.mem_filter.1 heL).1
  have hent:=run_entry_at (P:=P) w2 b bm clock seen arr clock e hnew hbm2 hem (UO hborn);obtain⟨j,hj,hje⟩:=List.getElem_of_mem heL;have hLl:(arr.filter λx=> !seen.contains x.born).size=L.length:=by rw[<-hL,Array.length_toList]
  have hLn:(L.map (·.born)).Nodup:=by
   rw[<-hL,Array.toList_filter];exact List.Nodup.sublist (List.Sublist.map _ List.filter_sublist) (UO hborn)
  have hL2:(arr.filter λx=> !(seen.push e.born).contains x.born).toList=L.eraseIdx j:=by
   rw[RC,hL,<-hje,zY L j hj hLn]
  have hL2l:(arr.filter λx=> !(seen.push e.born).contains x.born).size=(L.eraseIdx j).length:=by rw[<-hL2,Array.length_toList]
  have hjk:j<ks.length:=aE;have hjv:j<vs.length:=aE;have hat:∀(f:MapEntry->Value) (ds:List DV),(∀(i:Nat) (d:DV) (x:MapEntry),ds[i]? =some d->(arr.filter λx=> !seen.contains x.born)[i]? =some x->RD w (Ex X β H) d (f x))->
   ∀(i:Nat) (d:DV) (x:MapEntry),(ds.eraseIdx j)[i]? =some d->(arr.filter λx=> !(seen.push e.born).contains x.born)[i]? =some x->RD w (Ex X β H) d (f x):=λf ds h i d x hd hx=>by
   rw[<-Array.getElem?_toList,hL2,List.getElem?_eraseIdx]at hx;rw[List.getElem?_eraseIdx]at hd;split at hx
   ·rename_i q;rw[if_pos q]at hd;exact h i d x hd (by rw[<-Array.getElem?_toList,hL];exact hx)
   ·rename_i q;rw[if_neg q]at hd;exact h (i+1) d x hd (by rw[<-Array.getElem?_toList,hL];exact hx)
  obtain⟨m2,gg2⟩:=s.mem.rewriteG (id:=id) (b:=b) (o':=.iter false (ks.eraseIdx j) (vs.eraseIdx j)) (w':=w2) (by rw[hH];rfl) hb (by rw[<-hw2];exact hos) (by rw[<-hw2];exact htape) (by rw[<-hw2];exact hout) (by rw[<-hw2];exact hdr) hsz hoth
   (by unfold bQ;rw[hH,aX];exact .inr ⟨⟨false,_,_,rfl⟩,rfl⟩) (λhD _=>by
     unfold dO;rw[aX];refine⟨b,bm,arr,clock,seen.push e.born,clock,hb,hnew,?_,aE,hbm2,hborn,rfl,?_,?_,λi d x h1 h2=>hD _ _ (hat (·.key) ks hkey i d x h1 h2),λi d x h1 h2=>hD _ _ (hat (·.val) vs hval i d x h1 h2)⟩
     ·rintro(h|⟨i,h1,h2⟩)
      ·exact hnE (.inl h)
      ·by_cases hi:i=id
       ·subst hi;exact hnE (.inr ⟨i,by rw[hH];rfl,h2⟩)
       ·rw[cG _ _ hi]at h1;exact hnE (.inr ⟨i,h1,h2⟩)
     ·rw[hL2l,List.length_eraseIdx_of_lt hj,List.length_eraseIdx_of_lt hjk];omega
     ·rw[hL2l,List.length_eraseIdx_of_lt hj,List.length_eraseIdx_of_lt hjv];omega)
  have hkj:RD w2 (Ex X β (cE H id (.iter false (ks.eraseIdx j) (vs.eraseIdx j)))) ks[j] e.key:=gg2.D (hkey j _ e (List.getElem?_eq_getElem hjk) (by rw[<-Array.getElem?_toList,hL,List.getElem?_eq_getElem hj,hje]));have t1:=s.put m2 gg2 (.junk (.tuple #[.bool true,e.key,e.val])) (ok d1 hN.1);have t2:=t1.put m2 eT.refl (.junk (.bool true)) (ok d2 hN.2.1);have t3:=t2.put m2 eT.refl (.junk (.tuple #[e.key,e.val])) (ok d3 hN.2.2.1);have t4:=t3.put m2 eT.refl (.junk e.key) (ok d4 hN.2.2.2.1);have t5:=t4.put m2 eT.refl (.d _ _ hkj) (ok d5 hN.2.2.2.2);show Code.wpIn (RF r) 0 P _ _ _ _;refine wpIn_seq (wpIn_cond_true (by simp[bX,cB,hz,hN.2.1]) (wpIn_skip ?_));show Code.wpIn (RF r) 0 P _ _ _ _;refine wpIn_block (wpIn_mono (Q:=λe a' w'=>∃x env' H' β',gM e x/\mC N w0 X env' H' β' a' w'/\uY b1 Q x env' H') (wpIn_seq (eZ (λa w h=>lB a w h) hr.seq2.seq2.block.seq1 ?_)) ?_)
  ·refine bG i1 (v:=.tuple #[e.key,e.val]) (w':=w2) (by simp[execOp,k1,bX,cB,hz,hd.1,hd.2,hit,hent]) ?_;rw[f1];refine bG i2 (v:=e.key) (w':=w2) (by simp[execOp,k2,bX,cB,hz,hN.2.2.1,Instr.extract]) ?_;rw[f2];refine bG i3 (v:=e.key) (w':=w2) (by simp[execOp,k3,bX,cB,hz,hN.2.2.2.1]) ?_;rw[f3];exact hMore j hjk r hr.seq2.seq2.block.seq2 β _ w2 t5
  ·rintro e a' w' ⟨lx,env',H',β',h1,h2,h3⟩;cases e<;>cases lx<;>simp only[gM]at h1
   ·exact⟨.normal,env',H',β',trivial,h2,h3⟩
   ·subst h1;simp only[Exit.inBlock,uY]at h3|-;split at h3
    ·rename_i he;rw[if_pos he];exact⟨.normal,env',H',β',trivial,h2,h3⟩
    ·rename_i he;rw[if_neg he];exact⟨.exit _,env',H',β',rfl,h2,h3⟩
   ·exact⟨.ret,env',H',β',trivial,h2,h3⟩
end
end
section
abbrev aW:=List UInt8
structure Nm where
 who:Int
 seq:Int
 deriving DecidableEq,Inhabited
structure Df where
 name:aW
 text:aW
 deriving DecidableEq,Inhabited
structure Ed where
 name:Nm
 needs:List Nm
 puts:List Df
 drops:List aW
 deriving DecidableEq,Inhabited
abbrev aI(n:Int):DV:=.int .i64 n
def Nm.d(n:Nm):DV:=.agg [.int .i64 n.who,.int .i64 n.seq]
def Df.d(d:Df):DV:=.agg [.str d.name,.str d.text]
def aBi(l:List Nm):DV:=.sl (l.map Nm.d)
def eO(l:List Df):DV:=.sl (l.map Df.d)
def gO(l:List aW):DV:=.sl (l.map .str)
def Ed.d(e:Ed):DV:=.agg [.int .i64 e.name.who,.int .i64 e.name.seq,.sl (e.needs.map Nm.d),.sl (e.puts.map Df.d),.sl (e.drops.map .str)]
def aBj(l:List Ed):DV:=.sl (l.map Ed.d)
theorem Ia{α β:Type}{f:α->β}{acc:List α}:List.take acc.length (List.map f acc)=List.map f acc:=List.take_of_length_le aM
theorem Ib{α β:Type}{f:α->β}{l:List α}{t:List β}:List.take l.length (List.map f l++t)=List.map f l:=by rw[List.take_append_of_le_length aM,List.take_of_length_le aM]
theorem vM{α:Type}{k n:Nat}{l:List α}{x:α}(h:x∈(l.drop k).take n):x∈l:=List.mem_of_mem_drop (List.mem_of_mem_take h)
theorem Nn{l:List Nm}{y:DV}(h:y∈l.map Nm.d):(aQ y).length=2/\∀c∈aQ y,memless c=true:=by
 obtain⟨a,_,rfl⟩:=List.mem_map.1 h;exact⟨rfl,by simp[Nm.d,aQ,memless]⟩
theorem Np{l:List Df}{y:DV}(h:y∈l.map Df.d):(aQ y).length=2/\∀c∈aQ y,memless c=true:=by
 obtain⟨a,_,rfl⟩:=List.mem_map.1 h;exact⟨rfl,by simp[Df.d,aQ,memless]⟩
theorem Ic{l:List aW}{y:DV}(h:y∈l.map DV.str):(aQ y).length=1/\∀c∈aQ y,memless c=true:=by
 obtain⟨a,_,rfl⟩:=List.mem_map.1 h;exact⟨rfl,by simp[aQ,memless]⟩
theorem Nq{l:List Ed}{y:DV}(h:y∈l.map Ed.d):(aQ y).length=5:=by
 obtain⟨a,_,rfl⟩:=List.mem_map.1 h;rfl
section
variable{l:List Nm} {m:List Df} {r:List aW} {e:List Ed} {k n:Nat}
theorem aBk:(∀y∈List.take k (List.map Nm.d l),(aQ y).length=2)↔True:=iff_true_intro λ_ h=>(Nn (List.mem_of_mem_take h)).1
theorem aBl:(∀y∈List.drop k (List.map Nm.d l),(aQ y).length=2)↔True:=iff_true_intro λ_ h=>(Nn (List.mem_of_mem_drop h)).1
theorem aAG:(∀y∈List.take n (List.drop k (List.map Nm.d l)),(aQ y).length=2)↔True:=iff_true_intro λ_ h=>(Nn (vM h)).1
theorem aBm:(∀y∈List.take k (List.map Df.d m),(aQ y).length=2)↔True:=iff_true_intro λ_ h=>(Np (List.mem_of_mem_take h)).1
theorem aBn:(∀y∈List.drop k (List.map Df.d m),(aQ y).length=2)↔True:=iff_true_intro λ_ h=>(Np (List.mem_of_mem_drop h)).1
theorem aAH:(∀y∈List.take n (List.drop k (List.map Df.d m)),(aQ y).length=2)↔True:=iff_true_intro λ_ h=>(Np (vM h)).1
theorem aAI:(∀y∈List.take k (List.map DV.str r),(aQ y).length=1)↔True:=iff_true_intro λ_ h=>(Ic (List.mem_of_mem_take h)).1
theorem aAJ:(∀y∈List.drop k (List.map DV.str r),(aQ y).length=1)↔True:=iff_true_intro λ_ h=>(Ic (List.mem_of_mem_drop h)).1
theorem ZO:(∀y∈List.take n (List.drop k (List.map DV.str r)),(aQ y).length=1)↔True:=iff_true_intro λ_ h=>(Ic (vM h)).1
theorem aBo:(∀y∈List.take k (List.map Ed.d e),(aQ y).length=5)↔True:=iff_true_intro λ_ h=>Nq (List.mem_of_mem_take h)
theorem aBp:(∀y∈List.drop k (List.map Ed.d e),(aQ y).length=5)↔True:=iff_true_intro λ_ h=>Nq (List.mem_of_mem_drop h)
theorem aAK:(∀y∈List.take n (List.drop k (List.map Ed.d e)),(aQ y).length=5)↔True:=iff_true_intro λ_ h=>Nq (vM h)
end
def Pz{α:Type}(p:α->Bool)(l:List α)(i:Nat):Prop:=∀j (h:j<l.length),j<i->p l[j]=false
theorem Pz.zero{α:Type}{p:α->Bool}{l:List α}:Pz p l 0:=λ_ _ h=>absurd h (Nat.not_lt_zero _)
theorem Pz.succ{α:Type}{p:α->Bool}{l:List α}{i:Nat}(h:Pz p l i)(hi:i<l.length)(hp:p l[i]=false):Pz p l (i+1):=λj hj hji=>by
 by_cases e:j=i
 ·subst e;exact hp
 ·exact h j hj aE
theorem Pz.found{α:Type}{p:α->Bool}{l:List α}{i:Nat}(h:Pz p l i)(hi:i<l.length)(hp:p l[i]=true):l.findIdx? p=some i:=by
 rw[List.findIdx?_eq_some_iff_getElem];exact⟨hi,hp,λj hj=>by rw[h j aE hj];simp⟩
theorem Pz.none{α:Type}{p:α->Bool}{l:List α}{i:Nat}(h:Pz p l i)(hi:l.length<=i):l.findIdx? p=none:=by
 rw[List.findIdx?_eq_none_iff];intro x hx;obtain⟨j,hj,rfl⟩:=List.getElem_of_mem hx;exact h j hj aE
theorem Pz.any{α:Type}{p:α->Bool}{l:List α}{i:Nat}(h:Pz p l i)(hi:l.length<=i):l.any p=false:=by
 rw[List.any_eq_false];intro x hx;obtain⟨j,hj,rfl⟩:=List.getElem_of_mem hx;rw[h j hj aE];simp
theorem ZP{α:Type}{p:α->Bool}{l:List α}{i:Nat}(hi:i<l.length)(hp:p l[i]=true):l.any p=true:=List.any_eq_true.2 ⟨_,List.getElem_mem hi,hp⟩
theorem Id{α:Type}{a b:List α}{i:Nat}(h:a.take i=b.take i)(ha:i<a.length)(hb:i<b.length)(e:a[i]=b[i]):a.take (i+1)=b.take (i+1):=by
 have h1:a.take (i+1)=a.take i++[a[i]]:=aM;have h2:b.take (i+1)=b.take i++[b[i]]:=aM;rw[h1,h2,h,e]
def bH(n m:Int):Int:=(if n<0 then -(n+1)else n).tmod m
def dQ(l:List Int)(i m:Int):Int:=if i<0\/l.length<=i then 0 else bH (l.getD i.toNat 0) m
def kM{α:Type}(p:α->Bool)(out:List α):Nat->Nat
 |0=>0
 |k+1=>match out[k]? with
  |some y=>if p y then kM p out k else k+1
  |none=>k+1
def gP{α:Type}(k:Nat)(x:α)(out:List α):List α:=out.take k++x::out.drop k
theorem pG{α:Type}{p:α->Bool}{out:List α}{k:Nat}(h:∀i,k=i+1->∀(hi:i<out.length),p out[i]=false):kM p out k=k:=by
 cases k with
 |zero=>rfl
 |succ k=>
  simp only[kM];cases q:out[k]? with
  |none=>rfl
  |some y=>
   obtain⟨hk,rfl⟩:=List.getElem?_eq_some_iff.1 q;simp[h k rfl hk]
theorem wZ{α:Type}{p:α->Bool}{out:List α}{k:Nat}(hk:k<out.length)(h:p out[k]=true):kM p out (k+1)=kM p out k:=by
 simp only[kM,List.getElem?_eq_getElem hk,h,if_true]
theorem CW{α:Type}{p:α->Bool}{out:List α}:∀k,kM p out k<=k
 |0=>Nat.le_refl _
 |k+1=>by
  simp only[kM];cases out[k]? with
  |none=>exact Nat.le_refl _
  |some y=>simp only;split;exact Nat.le_succ_of_le (CW k);exact Nat.le_refl _
theorem oS{α:Type}{k:Nat}{x:α}{out:List α}:(gP k x out).length=out.length+1:=by
 unfold gP;simp;omega
theorem dG(n m:Int)(hm:0<m):0<=bH n m/\bH n m<m:=by
 unfold bH;split
 ·exact⟨Int.tmod_nonneg _ aE,Int.tmod_lt_of_pos _ hm⟩
 ·exact⟨Int.tmod_nonneg _ aE,Int.tmod_lt_of_pos _ hm⟩
end
section
inductive Nd where
 |mk (kind:Int) (text:aW) (n:Int) (kids:List Nd)
instance:Inhabited Nd:=⟨.mk 0 [] 0 []⟩
def Nd.kind:Nd->Int| .mk k _ _ _=>k
def Nd.text:Nd->aW| .mk _ t _ _=>t
def Nd.n:Nd->Int| .mk _ _ n _=>n
def Nd.kids:Nd->List Nd| .mk _ _ _ ks=>ks
@[simp] theorem dW{k:Int}{t:aW}{n:Int}{ks:List Nd}:(Nd.mk k t n ks).kind=k:=rfl
@[simp] theorem Nr{k:Int}{t:aW}{n:Int}{ks:List Nd}:(Nd.mk k t n ks).text=t:=rfl
@[simp] theorem xA{k:Int}{t:aW}{n:Int}{ks:List Nd}:(Nd.mk k t n ks).n=n:=rfl
@[simp] theorem pV{k:Int}{t:aW}{n:Int}{ks:List Nd}:(Nd.mk k t n ks).kids=ks:=rfl
mutual
theorem nE{p:Nd->Prop}(h:∀k t n ks,(∀x∈ks,p x)->p (.mk k t n ks)):∀x,p x
 | .mk k t n ks=>h k t n ks (PA h ks)
theorem PA{p:Nd->Prop}(h:∀k t n ks,(∀x∈ks,p x)->p (.mk k t n ks)):∀(ks:List Nd),∀x∈ks,p x
 |[],_,hx=>by cases hx
 |a::r,x,hx=>by
  rcases List.mem_cons.1 hx with e|e
  ·rw[e];exact nE h a
  ·exact PA h r x e
end
mutual
def Nd.d:Nd->DV
 | .mk k t n ks=>.agg [aI k,.str t,aI n,.sl (UP ks)]
def UP:List Nd->List DV
 |[]=>[]
 |x::r=>x.d::UP r
end
theorem ndsL_map:∀ks:List Nd,UP ks=ks.map Nd.d
 |[]=>by simp[UP]
 |x::r=>by rw[UP,ndsL_map r];rfl
theorem Nd.d_eq(x:Nd):x.d=.agg [aI x.kind,.str x.text,aI x.n,.sl (x.kids.map Nd.d)]:=by
 cases x with|mk k t n ks=>rw[Nd.d,ndsL_map];rfl
def ndsD(l:List Nd):DV:=.sl (l.map Nd.d)
theorem nd_len(x:Nd):(aQ x.d).length=4:=by rw[Nd.d_eq];rfl
theorem nd_mem{l:List Nd}{y:DV}(h:y∈l.map Nd.d):(aQ y).length=4:=by
 obtain⟨a,_,rfl⟩:=List.mem_map.1 h;exact nd_len a
section
variable{l:List Nd} {k n:Nat}
theorem nd_t:(∀y∈List.take k (List.map Nd.d l),(aQ y).length=4)↔True:=iff_true_intro λ_ h=>nd_mem (List.mem_of_mem_take h)
theorem nd_dr:(∀y∈List.drop k (List.map Nd.d l),(aQ y).length=4)↔True:=iff_true_intro λ_ h=>nd_mem (List.mem_of_mem_drop h)
theorem nd_td:(∀y∈List.take n (List.drop k (List.map Nd.d l)),(aQ y).length=4)↔True:=iff_true_intro λ_ h=>nd_mem (vM h)
end
mutual
def sizeN:Nd->Nat
 | .mk _ _ _ ks=>sizeL ks+1
def sizeL:List Nd->Nat
 |[]=>0
 |x::r=>sizeN x+sizeL r
end
mutual
def depthN:Nd->Nat
 | .mk _ _ _ ks=>depthL ks+1
def depthL:List Nd->Nat
 |[]=>0
 |x::r=>max (depthN x) (depthL r)
end
mutual
def weighN:Nd->Nat
 | .mk _ t _ ks=>weighL ks+t.length+1
def weighL:List Nd->Nat
 |[]=>0
 |x::r=>weighN x+weighL r
end
theorem depthN_eq(x:Nd):depthN x=depthL x.kids+1:=by cases x;rw[depthN];rfl
theorem weighN_eq(x:Nd):weighN x=weighL x.kids+x.text.length+1:=by cases x;rw[weighN];rfl
theorem weighL_append:∀(a b:List Nd),weighL (a++b)=weighL a+weighL b
 |[],b=>by simp[weighL]
 |x::a,b=>by rw[List.cons_append,weighL,weighL,weighL_append a b,Nat.add_assoc]
theorem depthL_append:∀(a b:List Nd),depthL (a++b)=max (depthL a) (depthL b)
 |[],b=>by simp[depthL]
 |x::a,b=>by rw[List.cons_append,depthL,depthL,depthL_append a b,Nat.max_assoc]
theorem depthL_succ{l:List Nd}{i:Nat}(hi:i<l.length):depthL (l.take (i+1))=max (depthL (l.take i)) (depthN l[i]):=by
 rw[<-List.take_append_getElem hi,depthL_append];simp[depthL]
theorem weigh_mem:∀{l:List Nd} {x:Nd},x∈l->weighN x<=weighL l
 |[],_,h=>by cases h
 |a::l,x,h=>by
  rw[weighL];rcases List.mem_cons.1 h with e|e
  ·rw[e];omega
  ·have:=weigh_mem e;omega
theorem weigh_len:∀{l:List Nd},l.length<=weighL l
 |[]=>Nat.zero_le _
 |a::l=>by
  have:=weigh_len (l:=l);have h:1<=weighN a:=by rw[weighN_eq];omega
  rw[weighL,List.length_cons];omega
theorem size_weigh(x:Nd):sizeN x<=weighN x:=by
 refine nE (p:=λx=>sizeN x<=weighN x) (λk t n ks ih=>?_) x;rw[sizeN,weighN];have:∀l:List Nd,(∀x∈l,sizeN x<=weighN x)->sizeL l<=weighL l:=λl=>by
  induction l with
  |nil=>intro _;simp[sizeL,weighL]
  |cons a l ih=>intro h;have:=ih λx hx=>h x (List.mem_cons_of_mem _ hx);have:=h a (List.mem_cons_self ..);rw[sizeL,weighL];omega
 have:=this ks ih;omega
theorem depth_size(x:Nd):depthN x<=sizeN x:=by
 refine nE (p:=λx=>depthN x<=sizeN x) (λk t n ks ih=>?_) x;rw[depthN,sizeN];have:∀l:List Nd,(∀x∈l,depthN x<=sizeN x)->depthL l<=sizeL l:=λl=>by
  induction l with
  |nil=>intro _;simp[sizeL,depthL]
  |cons a l ih=>intro h;have:=ih λx hx=>h x (List.mem_cons_of_mem _ hx);have:=h a (List.mem_cons_self ..);rw[sizeL,depthL];omega
 have:=this ks ih;omega
mutual
def sameN:Nd->Nd->Bool
 | .mk k t n ks,.mk k' t' n' ks'=>decide (k=k')&&decide (t=t')&&decide (n=n')&&sameL ks ks'
def sameL:List Nd->List Nd->Bool
 |[],[]=>true
 |a::r,b::s=>sameN a b&&sameL r s
 |_,_=>false
end
mutual
theorem sameN_iff:∀a b:Nd,sameN a b=true↔a=b
 | .mk k t n ks,.mk k' t' n' ks'=>by
   rw[sameN];simp only[Bool.and_eq_true,decide_eq_true_eq,sameL_iff ks ks',Nd.mk.injEq];exact⟨λ⟨⟨⟨a,b⟩,c⟩,d⟩=>⟨a,b,c,d⟩,λ⟨a,b,c,d⟩=>⟨⟨⟨a,b⟩,c⟩,d⟩⟩
theorem sameL_iff:∀a b:List Nd,sameL a b=true↔a=b
 |[],[]=>by simp[sameL]
 |[],b::s=>by simp[sameL]
 |a::r,[]=>by simp[sameL]
 |a::r,b::s=>by
  rw[sameL];simp only[Bool.and_eq_true,sameN_iff a b,sameL_iff r s,List.cons.injEq]
end
instance:DecidableEq Nd:=λa b=>decidable_of_iff _ (sameN_iff a b)
end
def wordsL:List aW:=[[118,97,114],[114,101,99],[99,104,97,110],[108,111,99,107],[102,105,108,101],[112,114,111,99],[116,101,115,116],[],[],[],[],[105,102],[119,104,105,108,101],[103,111],[99,97,108,108],[115,101,110,100],[114,101,99,118],[97,99,113,117,105,114,101],[114,101,108,101,97,115,101],[100,114,97,119],[110,111,119],[115,108,101,101,112],[119,114,105,116,101],[114,101,97,100],[99,104,101,99,107],[97,108,108,111,99]]
def boundsL:List (Int×Int):=[(-999,999),(0,0),(0,3),(0,0),(0,0),(0,0),(0,0),(-999,999),(0,0),(0,0),(0,0),(0,0),(0,0),(0,0),(0,0),(0,0),(0,0),(0,0),(0,0),(2,6),(0,0),(1,9),(0,0),(0,0),(0,0),(1,99),(0,0),(0,0),(0,0),(0,0),(0,0),(0,0),(0,999),(0,0),(0,0),(0,0),(0,0)]
def opsL:List (aW×Int):=[([60],1),([60,61],1),([61,61],1),([43],2),([45],2),([42],3)]
def sElse:aW:=[101,108,115,101]
def sKind:aW:=[107,105,110,100]
theorem words_len:wordsL.length=26:=rfl
theorem bounds_len:boundsL.length=37:=rfl
def letterB(c:UInt8):Bool:=decide (97<=c)&&decide (c<=122)
def digitB(c:UInt8):Bool:=decide (48<=c)&&decide (c<=57)
def runP(p:UInt8->Bool):aW->Nat
 |[]=>0
 |c::r=>if p c then runP p r+1 else 0
theorem runP_le(p:UInt8->Bool):∀s:aW,runP p s<=s.length
 |[]=>Nat.le_refl _
 |c::r=>by
  have:=runP_le p r;unfold runP;split<;>simp only[List.length_cons]<;>omega
theorem runP_all{p:UInt8->Bool}:∀{s:aW} {i:Nat} (h:i<s.length),i<runP p s->p s[i]=true
 |c::r,0,_,h=>by
  unfold runP at h;split at h
  ·assumption
  ·omega
 |c::r,i+1,hi,h=>by
  unfold runP at h;split at h
  ·simpa using runP_all (s:=r) (by simpa using hi) aE
  ·omega
theorem runP_stop{p:UInt8->Bool}:∀{s:aW} (h:runP p s<s.length),p s[runP p s]=false
 |[],h=>by simp at h
 |c::r,h=>by
  by_cases q:p c=true
  ·have e:runP p (c::r)=runP p r+1:=(by rw[runP,if_pos q]);have h':runP p r<r.length:=by rw[e]at h;simpa using h
   have:=runP_stop h';simp only[e];simpa using this
  ·have e:runP p (c::r)=0:=(by rw[runP,if_neg q]);simp only[e];simpa using q
theorem runP_eq{p:UInt8->Bool}{s:aW}{n:Nat}(hn:n<=s.length)(h:∀i (hi:i<n),p (s[i]'aE)=true)(hs:∀hl:n<s.length,p s[n]=false):runP p s=n:=by
 rcases Nat.lt_trichotomy (runP p s) n with q|q|q
 ·have:=runP_stop (p:=p) (s:=s) aE;rw[h _ q]at this;cases this
 ·exact q
 ·have hl:=runP_le p s;have:=runP_all (p:=p) (show n<s.length by omega) q;rw[hs aE]at this;cases this
def wordN(s:aW):Nat:=match s with
 |[]=>0
 |c::_=>if letterB c then(if runP (λc=>letterB c||digitB c) s<=16 then runP (λc=>letterB c||digitB c) s else 0)else 0
def signs:aW:=[40,41,123,125,61,43,45,42,60,59,46]
def nextN(s:aW):Nat:=match s with
 |[]=>0
 |c::r=>if letterB c then wordN s else if c=36 then(if 0<wordN r then wordN r+1 else 0)
  else if digitB c then(if runP digitB s<=3 then runP digitB s else 0)
  else if s.take 2=[60,61]\/s.take 2=[61,61]then 2 else if c∈signs then 1 else 0
def reservedB(s:aW):Bool:=decide (s=sElse)||decide (s=sKind)||decide (s∈wordsL)
def isNameB(s:aW):Bool:=match s with
 |[]=>false
 |c::_=>letterB c&& !reservedB s
def wholeB(s:aW)(named:Bool):Bool:=decide (s≠[])&&decide (wordN s=s.length)&&(!named||isNameB s)
def decS(n:Nat):aW:=if n<10 then [UInt8.ofNat (48+n)]else if n<100 then [UInt8.ofNat (48+n / 10),UInt8.ofNat (48+n%10)]else [UInt8.ofNat (48+n / 100),UInt8.ofNat (48+n / 10%10),UInt8.ofNat (48+n%10)]
def itoaS(n:Int):aW:=if n<0 then 45::decS n.natAbs else decS n.toNat
def wordAt(k:Int):aW:=wordsL.getD k.toNat []
def loAt(k:Int):Int:=(boundsL.getD k.toNat (0,0)).1
def hiAt(k:Int):Int:=(boundsL.getD k.toNat (0,0)).2
def signAt(k:Int):aW:=(opsL.getD (k-26).toNat ([],0)).1
def levelAt(k:Int):Int:=(opsL.getD (k-26).toNat ([],0)).2
def isStmtK(k:Int):Bool:=decide (9<=k)&&decide (k<=25)
def isItemK(k:Int):Bool:=decide (k=7)
def isBlockK(k:Int):Bool:=decide (k=8)
def isExprK(k:Int):Bool:=decide (26<=k)&&decide (k<=36)
theorem isExprK_iff{k:Int}:isExprK k=true↔26<=k/\k<=36:=by simp[isExprK]
theorem isStmtK_iff{k:Int}:isStmtK k=true↔9<=k/\k<=25:=by simp[isStmtK]
def isPlaceK(k:Int):Bool:=decide (k=34)||decide (k=35)
def isLocalK(k:Int):Bool:=decide (k=33)
def kidsB:List Nd->List (Int->Bool)->Bool
 |[],[]=>true
 |x::r,f::l=>f x.kind&&kidsB r l
 |_,_=>false
def shapedK(k:Int)(ks:List Nd):Bool:=
 if k=1 then ks.all λy=>isItemK y.kind
 else if k=8 then ks.all λy=>isStmtK y.kind
 else if k=5\/k=6 then kidsB ks [isBlockK]
 else if k=9\/k=15\/k=22\/k=24 then kidsB ks [isExprK]
 else if k=10 then kidsB ks [isPlaceK,isExprK]
 else if k=11 then kidsB ks [isExprK,isBlockK]||kidsB ks [isExprK,isBlockK,isBlockK]
 else if k=12 then kidsB ks [isExprK,isBlockK]
 else if k=16\/k=23 then kidsB ks [isLocalK]
 else if 26<=k/\k<=31 then kidsB ks [isExprK,isExprK]
 else kidsB ks []
def shapedB(x:Nd):Bool:=shapedK x.kind x.kids
def cutAt(c:UInt8):aW->Option (aW×aW)
 |[]=>none
 |d::r=>if d=c then some ([],r)else(cutAt c r).map λq=>(d::q.1,q.2)
def fieldB(t:aW):Bool:=match cutAt 46 t with
 |some (a,b)=>wholeB a true&&wholeB b true
 |none=>false
def textB(k:Int)(t:aW):Bool:=
 if k=9\/k=19\/k=20\/k=33 then wholeB t false
 else if k=35 then fieldB t
 else if k=8\/k=10\/k=11\/k=12\/k=21\/k=24\/k=25\/(26<=k/\k<=32)\/k=36 then decide (t=[])
 else wholeB t true
def wordedK(k:Int)(t:aW)(n:Int):Bool:=decide (loAt k<=n)&&decide (n<=hiAt k)&&textB k t
def wordedB(x:Nd):Bool:=wordedK x.kind x.text x.n
mutual
def rightN:Nd->Bool
 | .mk k t n ks=>decide (0<=k)&&decide (k<37)&&shapedB (.mk k t n ks)&&wordedB (.mk k t n ks)&&rightL ks
def rightL:List Nd->Bool
 |[]=>true
 |x::r=>rightN x&&rightL r
end
theorem rightL_all:∀l:List Nd,rightL l=l.all rightN
 |[]=>rfl
 |x::r=>by rw[rightL,rightL_all r];rfl
theorem right_mk{k:Int}{t:aW}{n:Int}{ks:List Nd}:rightN (.mk k t n ks)=true↔0<=k/\k<37/\shapedK k ks=true/\loAt k<=n/\n<=hiAt k/\textB k t=true/\∀x∈ks,rightN x=true:=by
 rw[rightN,rightL_all];have e1:shapedB (.mk k t n ks)=shapedK k ks:=rfl;have e2:wordedB (.mk k t n ks)=wordedK k t n:=rfl;rw[e1,e2];simp only[Bool.and_eq_true,decide_eq_true_eq,wordedK,List.all_eq_true];exact⟨λ⟨⟨⟨⟨a,b⟩,c⟩,⟨d,e⟩,f⟩,g⟩=>⟨a,b,c,d,e,f,g⟩,λ⟨a,b,c,d,e,f,g⟩=>⟨⟨⟨⟨a,b⟩,c⟩,⟨d,e⟩,f⟩,g⟩⟩
theorem rightN_eq(x:Nd):rightN x=(decide (0<=x.kind)&&decide (x.kind<37)&&shapedB x&&wordedB x&&x.kids.all rightN):=by
 cases x;rw[rightN,rightL_all];rfl
def paren(c:Bool)(t:aW):aW:=if c then 40::t++[41]else t
def lvlN(k:Int):Int:=if 26<=k/\k<=31 then levelAt k else 4
def exprT:Nd->aW
 | .mk k t n ks=>if k=32 then itoaS n else if k=33 then 36::t else if k=36 then sKind else if k=34\/k=35 then t else match ks with
   |[a,b]=>paren (decide (lvlN a.kind<(if levelAt k=1 then 2 else levelAt k))) (exprT a)++32::(signAt k++32::paren (decide (lvlN b.kind<levelAt k+1)) (exprT b))
   |_=>[]
def withN(n:Int):aW:=if 0<n then 32::itoaS n else []
def withE(ks:List Nd):aW:=ks.flatMap λx=>32::exprT x
def midT(k:Int)(t:aW):aW:=if k=19\/k=20 then 32::36::t else if k=21\/k=25\/k=24 then []else 32::t
mutual
def stmtT:Nd->aW
 | .mk k t n ks=>if k=9 then(match ks with|[e]=>36::t++32::61::32::(exprT e++[59])|_=>[])
   else if k=10 then(match ks with|[p,e]=>exprT p++32::61::32::(exprT e++[59])|_=>[])
   else if k=11\/k=12 then(match ks with
    |[e,b]=>wordAt k++32::(exprT e++32::blockT b)
    |[e,b,c]=>wordAt k++32::(exprT e++32::blockT b)++32::(sElse++32::blockT c)
    |_=>[])
   else wordAt k++midT k t++withN n++withE ks++[59]
def blockT:Nd->aW
 | .mk _ _ _ ks=>123::32::(stmtsT ks++[125])
def stmtsT:List Nd->aW
 |[]=>[]
 |x::r=>stmtT x++32::stmtsT r
end
def itemT(x:Nd):aW:=x.text++32::61::32::(itoaS x.n++[59,32])
def textT(x:Nd):aW:=
 let o:=wordAt x.kind++32::x.text
 if x.kind=5\/x.kind=6 then(match x.kids with|[b]=>o++32::blockT b|_=>[])
 else if x.kind=1 then o++32::123::32::(x.kids.flatMap itemT++[125])
 else if x.kind=0 then o++32::61::32::(itoaS x.n++[59])
 else if x.kind=2 then o++32::(itoaS x.n++[59])
 else o++[59]
def validB(x:Nd):Bool:=decide (0<=x.kind)&&decide (x.kind<=6)&&decide (depthN x<=24)&&rightN x&&decide ((textT x).length<=1024)
def printS(x:Nd):aW:=if validB x then textT x else []
structure Tk where
 text:aW
 at_:Int
 deriving DecidableEq,Inhabited
def Tk.d(t:Tk):DV:=.agg [.str t.text,aI t.at_]
def scanF:Nat->aW->Int->List Tk×Int
 |0,_,i=>([],i)
 |f+1,s,i=>match s with
  |[]=>([],i)
  |c::r=>if c=32\/c=10 then scanF f r (i+1)else if nextN s=0 then([],i)else
   (⟨s.take (nextN s),i⟩::(scanF f (s.drop (nextN s)) (i+nextN s)).1,(scanF f (s.drop (nextN s)) (i+nextN s)).2)
def scanS(s:aW):List Tk×Int:=scanF s.length s 0
structure PS where
 l:List Tk
 e:Int
 deriving DecidableEq,Inhabited
def PS.peek(p:PS):aW:=if p.e≠0 then []else match p.l with|[]=>[]|t::_=>t.text
def PS.fail(p:PS)(e:Int):PS:=if p.e=0 then⟨p.l,e⟩else p
def PS.skip(p:PS):PS:=⟨p.l.tail,p.e⟩
def PS.is(p:PS)(s:aW):Bool:=decide (s≠[])&&decide (p.peek=s)
def PS.took(p:PS)(s:aW):PS:=if p.is s then p.skip else p
def PS.need(p:PS)(s:aW):PS:=if p.is s then p.skip else p.fail 2
def nameP(p:PS):aW×PS:=if isNameB p.peek then(p.peek,p.skip)else([],p.fail 2)
def localP(p:PS):aW×PS:=match p.peek with
 |36::r=>(r,p.skip)
 |_=>([],p.fail 2)
def valS(s:aW):Int:=s.foldl (λn c=>10*n+((c.toNat:Int)- 48)) 0
def numeralP(k:Int)(p:PS):Int×PS:=match p.peek with
 |[]=>(0,p.fail 2)
 |c::r=>if digitB c then(if valS (c::r)<loAt k\/hiAt k<valS (c::r)then(0,p.fail 5)else(valS (c::r),p.skip))else(0,p.fail 2)
def numberP(p:PS):Int×PS:=if p.is [45]then(-(numeralP 0 p.skip).1,(numeralP 0 p.skip).2)else numeralP 0 p
def placeP(p:PS):Nd×PS:=
 if(nameP p).2.is [46]then(.mk 35 ((nameP p).1++46::(nameP (nameP p).2.skip).1) 0 [],(nameP (nameP p).2.skip).2)
 else(.mk 34 (nameP p).1 0 [],(nameP p).2)
def opI(lv:Int)(s:aW):Int:=match(List.range 6).find? (λi=>decide ((opsL.getD i ([],0)).2=lv)&&decide ((opsL.getD i ([],0)).1=s))with
 |some i=>i
 |none=> -1
def opP(lv:Int)(p:PS):Int×PS:=(opI lv p.peek,if 0<=opI lv p.peek then p.skip else p)
def chainF(lv:Int)(x:PS->Nd×PS):Nat->Nd->PS->Nd×PS
 |0,n,p=>(n,p)
 |f+1,n,p=>if p.e≠0 then(n,p)else if(opP lv p).1<0 then(n,(opP lv p).2)else
  chainF lv x f (.mk (26+(opP lv p).1) [] 0 [n,(x (opP lv p).2).1]) (x (opP lv p).2).2
def chainP(lv:Int)(x:PS->Nd×PS)(p:PS):Nd×PS:=chainF lv x ((x p).2.l.length+1) (x p).1 (x p).2
def factP(ex:PS->Nd×PS)(p:PS):Nd×PS:=
 if p.is [40]then((ex p.skip).1,(ex p.skip).2.need [41])
 else if p.is sKind then(.mk 36 [] 0 [],p.skip)
 else match p.peek with
  |c::_=>if digitB c then(.mk 32 [] (numeralP 32 p).1 [],(numeralP 32 p).2)else if c=36 then(.mk 33 (localP p).1 0 [],(localP p).2)else placeP p
  |[]=>placeP p
def prodP(ex:PS->Nd×PS)(p:PS):Nd×PS:=chainP 3 (factP ex) p
def sumP(ex:PS->Nd×PS)(p:PS):Nd×PS:=chainP 2 (prodP ex) p
def exprB(ex:PS->Nd×PS)(p:PS):Nd×PS:=
 let a:=sumP ex p
 if 0<=(opP 1 a.2).1 then(.mk (26+(opP 1 a.2).1) [] 0 [a.1,(sumP ex (opP 1 a.2).2).1],(sumP ex (opP 1 a.2).2).2)else(a.1,(opP 1 a.2).2)
def zeroNd:Nd:=.mk 0 [] 0 []
def exprP(r:Bool):Nat->PS->Nd×PS
 |0,p=>(default,p)
 |f+1,p=>if r=true/\p.e≠0 then(zeroNd,p)else exprB (exprP r f) p
def stmtsF(st:PS->Nd×PS):Nat->List Nd->PS->List Nd×PS
 |0,ks,p=>(ks,p)
 |f+1,ks,p=>if p.e≠0\/p.peek=[125]then(ks,p)else stmtsF st f (ks++[(st p).1]) (st p).2
def blockB(st:PS->Nd×PS)(p:PS):Nd×PS:=
 let q:=p.need [123]
 let r:=stmtsF st (q.l.length+1) [] q
 (.mk 8 [] 0 r.1,r.2.need [125])
def wordI(s:aW):Int:=match(List.range 26).find? (λi=>decide (wordsL.getD i []=s))with
 |some i=>i
 |none=> -1
def kindP(s:aW):Int:=if s=[]then -1 else wordI s
def cmdP(ex:PS->Nd×PS)(k:Int)(p:PS):Nd×PS:=
 let a:aW×PS:=if k=19\/k=20 then localP p else if k=21\/k=25\/k=24 then([],p)else nameP p
 if k=15\/k=22\/k=24 then(.mk k a.1 0 [(ex a.2).1],(ex a.2).2)
 else if k=16\/k=23 then(.mk k a.1 0 [.mk 33 (localP a.2).1 0 []],(localP a.2).2)
 else if k=19\/k=21\/k=25 then(.mk k a.1 (numeralP k a.2).1 [],(numeralP k a.2).2)
 else(.mk k a.1 0 [],a.2)
def stmtB(ex bl:PS->Nd×PS)(p:PS):Nd×PS:=
 let k:=kindP p.peek
 if k=11\/k=12 then
  let e:=ex p.skip
  let b:=bl e.2
  if k=11/\b.2.is sElse=true then(.mk k [] 0 [e.1,b.1,(bl b.2.skip).1],(bl b.2.skip).2)else(.mk k [] 0 [e.1,b.1],b.2)
 else if 12<k then((cmdP ex k p.skip).1,(cmdP ex k p.skip).2.need [59])
 else match p.peek with
  |36::_=>(.mk 9 (localP p).1 0 [(ex ((localP p).2.need [61])).1],(ex ((localP p).2.need [61])).2.need [59])
  |_=>(.mk 10 [] 0 [(placeP p).1,(ex ((placeP p).2.need [61])).1],(ex ((placeP p).2.need [61])).2.need [59])
def stmtP(r:Bool):Nat->PS->Nd×PS
 |0,p=>(default,p)
 |f+1,p=>stmtB (λq=>exprP r (q.l.length+1) q) (blockB (stmtP r f)) p
def blockP(r:Bool)(f:Nat)(p:PS):Nd×PS:=blockB (stmtP r f) p
def itemsF:Nat->List Nd->PS->List Nd×PS
 |0,ks,p=>(ks,p)
 |f+1,ks,p=>if p.e≠0\/p.peek=[125]then(ks,p)else
  let a:=nameP p
  let v:=numberP (a.2.need [61])
  itemsF f (ks++[.mk 7 a.1 v.1 []]) (v.2.need [59])
def defKind(s:aW):Int:=if s=[]then -1 else(match(List.range 7).find? (λi=>decide (wordsL.getD i []=s))with|some i=>(i:Int)|none=> -1)
def defP(r:Bool)(p:PS):Nd×PS:=
 let k:=defKind p.peek
 if k<0 then(.mk 0 [] 0 [],p.fail 2)else
 let a:=nameP p.skip
 if k=5\/k=6 then(.mk k a.1 0 [(blockP r (a.2.l.length+1) a.2).1],(blockP r (a.2.l.length+1) a.2).2)
 else if k=1 then
  let q:=a.2.need [123]
  let t:=itemsF (q.l.length+1) [] q
  (.mk k a.1 0 t.1,t.2.need [125])
 else if k=0 then(.mk k a.1 (numberP (a.2.need [61])).1 [],(numberP (a.2.need [61])).2.need [59])
 else if k=2 then(.mk k a.1 (numeralP 2 a.2).1 [],(numeralP 2 a.2).2.need [59])
 else(.mk k a.1 0 [],a.2.need [59])
def parseS(s:aW):Nd×Int×Int:=
 if 1024<s.length then(zeroNd,1024,4)else
 let t:=scanS s
 let r:=defP false ⟨t.1,0⟩
 match r.2.l with
 |x::_=>(zeroNd,x.at_,if r.2.e≠0 then r.2.e else 2)
 |[]=>if r.2.e≠0\/t.2<s.length then(zeroNd,t.2,2)else if validB r.1 then(r.1,0,0)else(zeroNd,0,4)
example:(parseS [118,97,114,32,110,61,45,55,59]).1=.mk 0 [110] (-7) []:=bC
example:parseS [99,104,97,110,32,99,32,52,59]=(zeroNd,7,5):=bC
example:parseS [116,101,115,116,32,116,32,123,32,120,32,61,32,59,32,125]=(zeroNd,13,2):=bC
example:parseS [108,111,99,107,32,108]=(zeroNd,6,2):=bC
example:parseS [118,97,114,32,114,101,97,100,32,61,32,49,59]=(zeroNd,4,2):=bC
example:sizeN (parseS [112,114,111,99,32,112,123,36,97,61,40,120,46,121,43,49,41,42,50,59,105,102,32,36,97,60,51,123,103,111,32,113,59,125,101,108,115,101,123,125,125]).1=15:=bC
example:printS (parseS [112,114,111,99,32,112,123,36,97,61,40,120,46,121,43,49,41,42,50,59,105,102,32,36,97,60,51,123,103,111,32,113,59,125,101,108,115,101,123,125,125]).1=[112,114,111,99,32,112,32,123,32,36,97,32,61,32,40,120,46,121,32,43,32,49,41,32,42,32,50,59,32,105,102,32,36,97,32,60,32,51,32,123,32,103,111,32,113,59,32,125,32,101,108,115,101,32,123,32,125,32,125]:=bC
def callL:List aW:=[[97],[98],[120],[98,111,120],[113],[119,50],[99,104,101,99,107,115],[108,111,110,103,101,115,116,110,97,109,101,49,50,51,52,53]]
def ownL:List aW:=[[97],[105],[114,101,97,100],[108,111,110,103,101,115,116,108,111,99,97,108,49,50,51,52]]
def callM(L:List Int)(i:Nat):aW:=callL.getD (dQ L i 8).toNat []
def ownM(L:List Int)(i:Nat):aW:=ownL.getD (dQ L i 4).toNat []
def placeM(L:List Int)(i:Nat):Nd×Nat:=if 0<dQ L i 3 then(.mk 34 (callM L (i+1)) 0 [],i+2)else(.mk 35 (callM L (i+1)++46::callM L (i+2)) 0 [],i+3)
def numsM:List Int:=[0,1,2,7,10,999]
def valueM(L:List Int):Nat->Nat->Nd×Nat
 |d,i=>
  let k:=if d=0\/L.length<i+1 then(dQ L i 12).tmod 6 else dQ L i 12
  if k=0\/k=1 then(.mk 32 [] (numsM.getD (dQ L (i+1) 6).toNat 0) [],i+2)
  else if k=2 then(.mk 33 (ownM L (i+1)) 0 [],i+2)
  else if k=3\/k=4 then placeM L (i+1)
  else if k=5 then(.mk 36 [] 0 [],i+1)
  else match d with
   |0=>default
   |e+1=>(.mk (26+k-6) [] 0 [(valueM L e (i+1)).1,(valueM L e (valueM L e (i+1)).2).1],(valueM L e (valueM L e (i+1)).2).2)
def somesM(L:List Int)(st:Nat->Nd×Nat):Nat->List Nd->Nat->List Nd×Nat
 |0,ks,i=>(ks,i)
 |m+1,ks,i=>if L.length<=i then(ks,i)else somesM L st m (ks++[(st i).1]) (st i).2
def someM(L:List Int)(st:Nat->Nd×Nat)(i:Nat):Nd×Nat:=
 let r:=somesM L st (dQ L i 4).toNat [] (i+1)
 (.mk 8 [] 0 r.1,r.2)
def oneB(L:List Int)(d:Nat)(bl:Nat->Nd×Nat)(i0:Nat):Nd×Nat:=
 let k0:=9+dQ L i0 17
 let k:=if d=0/\(k0=11\/k0=12)then 24 else k0
 let i:=i0+1
 if k=9 then(.mk k (ownM L i) 0 [(valueM L 2 (i+1)).1],(valueM L 2 (i+1)).2)
 else if k=10 then(.mk k [] 0 [(placeM L i).1,(valueM L 2 (placeM L i).2).1],(valueM L 2 (placeM L i).2).2)
 else if k=11\/k=12 then
  let e:=valueM L 1 i
  let b:=bl e.2
  if k=11 then(if dQ L b.2 2=0 then(.mk k [] 0 [e.1,b.1,(bl (b.2+1)).1],(bl (b.2+1)).2)else(.mk k [] 0 [e.1,b.1],b.2+1))
  else(.mk k [] 0 [e.1,b.1],b.2)
 else if k=13\/k=14\/k=17\/k=18 then(.mk k (callM L i) 0 [],i+1)
 else if k=15\/k=22 then(.mk k (callM L i) 0 [(valueM L 1 (i+1)).1],(valueM L 1 (i+1)).2)
 else if k=16\/k=23 then(.mk k (callM L i) 0 [.mk 33 (ownM L (i+1)) 0 []],i+2)
 else if k=19 then(.mk k (ownM L i) (2+dQ L (i+1) 5) [],i+2)
 else if k=20 then(.mk k (ownM L i) 0 [],i+1)
 else if k=21 then(.mk k [] (1+dQ L i 9) [],i+1)
 else if k=25 then(.mk k [] (1+dQ L i 99) [],i+1)
 else(.mk k [] 0 [(valueM L 2 i).1],(valueM L 2 i).2)
def oneM(L:List Int):Nat->Nat->Nd×Nat
 |0,i=>oneB L 0 (λ_=>default) i
 |d+1,i=>oneB L (d+1) (someM L (oneM L d)) i
def treeKinds:List Int:=[5,6,5,6,5,0,1,2,3,4]
def bodyM(L:List Int):Nat->List Nd->Nat->List Nd
 |0,ks,_=>ks
 |m+1,ks,i=>if L.length<=i then ks else bodyM L m (ks++[(oneM L 2 i).1]) (oneM L 2 i).2
def itemsM(L:List Int):Nat->List Nd
 |0=>[]
 |j+1=>itemsM L j++[.mk 7 (callM L (3+2*j)) (dQ L (4+2*j) 1999-999) []]
def treeB(L:List Int):Nd:=
 let k:=treeKinds.getD (dQ L 0 10).toNat 0
 let t:=callM L 1
 if k=0 then .mk k t (dQ L 2 1999-999) []
 else if k=2 then .mk k t (dQ L 2 4) []
 else if k=1 then .mk k t 0 (itemsM L (dQ L 2 4).toNat)
 else if k=5\/k=6 then .mk k t 0 [.mk 8 [] 0 (bodyM L L.length [] 2)]
 else .mk k t 0 []
def treeS(l:List Int):Nd:=treeB (l.take 48)
def tokE(t:Tk):Int:=t.at_+t.text.length
def sepsL:List aW:=[[32],[10],[32,32,10,32]]
def signB(c:UInt8):Bool:=decide (c∈signs)
def firstIs(p:UInt8->Bool)(w:aW):Bool:=match w with|[]=>false|c::_=>p c
def spacedTo(ts:List Tk)(l:List Int):Nat->aW
 |0=>[]
 |i+1=>
  let out:=spacedTo ts l i
  let w:=(ts.getD i default).text
  let k:=dQ l i 6
  let need:=match out.getLast? with
   |none=>false
   |some c=>(firstIs letterB w||firstIs digitB w)&&decide (c≠32)&&decide (c≠10)&& !signB c
  (if decide (k<3)||need||(decide (0<i)&&(decide (w=[61])||decide (w=[61,61])))then out++sepsL.getD (k.tmod 3).toNat []else out)++w
def spacedS(s:aW)(l:List Int):aW:=spacedTo (scanS s).1 l (scanS s).1.length
def chgEmpty:List aW:=[[118,97,114],[41],[65],[49,44,48]]
def chgWords:List aW:=[[118,97,114],[120],[40],[41],[123],[125],[48,48,55],[60],[60,61],[105,102],[61],[61,61],[48],[45],[44],[49,50,51,52],[36,120],[107,105,110,100],[101,108,115,101],[59],[46],[49,48,48],[36],[108,111,110,103,101,114,110,97,109,101,49,50,51,52,53,54,55],[116,101,115,116],[52]]
def changedS(s:aW)(a how b:Int):aW:=match(scanS s).1 with
 |[]=>s++chgEmpty.getD (bH b 4).toNat []
 |t::ts=>
  let k:=(t::ts).getD (bH a (ts.length+1:Nat)).toNat default
  let word:=chgWords.getD (bH b 26).toNat []
  let p:=k.at_.toNat
  let q:=(tokE k).toNat
  let c:=bH how 6
  if c=0 then s.take p++s.drop q
  else if c=1 then s.take q++32::s.drop p
  else if c=2 then s.take p++32::(word++32::s.drop q)
  else if c=3 then s.take p
  else if c=4 then s.take p++word++32::s.drop p
  else s.set (bH a s.length).toNat (UInt8.ofNat (b.emod 256).toNat)
def Stk{α:Type}(x:PS->α×PS):Prop:=∀p,(x p).2.e=0->p.e=0
theorem fail_e{p:PS}{e:Int}(he:e≠0):(p.fail e).e≠0:=by
 unfold PS.fail;split
 ·exact he
 ·assumption
theorem need_e{p:PS}{s:aW}(h:(p.need s).e=0):p.is s=true/\p.e=0:=by
 unfold PS.need at h;split at h
 ·rename_i q;exact⟨q,h⟩
 ·exact absurd h (fail_e bC)
theorem nameP_stk:Stk nameP:=λp h=>by
 unfold nameP at h;split at h
 ·exact h
 ·exact absurd h (fail_e bC)
theorem localP_stk:Stk localP:=λp h=>by
 unfold localP at h;split at h
 ·exact h
 ·exact absurd h (fail_e bC)
theorem numeralP_stk(k:Int):Stk (numeralP k):=λp h=>by
 unfold numeralP at h;split at h
 ·exact absurd h (fail_e bC)
 ·split at h
  ·split at h
   ·exact absurd h (fail_e bC)
   ·exact h
  ·exact absurd h (fail_e bC)
theorem numberP_stk:Stk numberP:=λp h=>by
 unfold numberP at h;split at h
 ·exact numeralP_stk 0 p.skip h
 ·exact numeralP_stk 0 _ h
theorem placeP_stk:Stk placeP:=λp h=>by
 unfold placeP at h;split at h
 ·exact nameP_stk p (nameP_stk (nameP p).2.skip h)
 ·exact nameP_stk p h
theorem opP_stk(lv:Int):Stk (opP lv):=λp h=>by
 unfold opP at h;simp only at h;split at h<;>exact h
theorem chainF_stk{lv:Int}{x:PS->Nd×PS}(hx:Stk x):∀(f:Nat) (n:Nd) (p:PS),(chainF lv x f n p).2.e=0->p.e=0
 |0,_,_,h=>h
 |f+1,n,p,h=>by
  unfold chainF at h;split at h
  ·exact h
  ·rename_i q;simpa using q
theorem chainP_stk{lv:Int}{x:PS->Nd×PS}(hx:Stk x):Stk (chainP lv x):=λp h=>hx p (chainF_stk hx _ _ _ h)
theorem factP_stk{ex:PS->Nd×PS}(hx:Stk ex):Stk (factP ex):=λp h=>by
 unfold factP at h;split at h
 ·exact hx p.skip (need_e h).2
 ·split at h
  ·exact h
  ·split at h
   ·split at h
    ·exact numeralP_stk 32 p h
    ·split at h
     ·exact localP_stk p h
     ·exact placeP_stk p h
   ·exact placeP_stk p h
theorem sumP_stk{ex:PS->Nd×PS}(hx:Stk ex):Stk (sumP ex):=chainP_stk (chainP_stk (factP_stk hx))
theorem exprB_stk{ex:PS->Nd×PS}(hx:Stk ex):Stk (exprB ex):=λp h=>by
 unfold exprB at h;simp only at h;split at h
 ·exact sumP_stk hx p (opP_stk 1 _ (sumP_stk hx _ h))
 ·exact sumP_stk hx p (opP_stk 1 _ h)
theorem exprP_stk(r:Bool):∀f,Stk (exprP r f)
 |0=>λp h=>h
 |f+1=>λp h=>by
  unfold exprP at h;split at h
  ·exact h
  ·exact exprB_stk (exprP_stk r f) p h
theorem stmtsF_stk{st:PS->Nd×PS}(hs:Stk st):∀(f:Nat) (ks:List Nd) (p:PS),(stmtsF st f ks p).2.e=0->p.e=0
 |0,_,_,h=>h
 |f+1,ks,p,h=>by
  unfold stmtsF at h;split at h
  ·exact h
  ·exact hs p (stmtsF_stk hs f _ _ h)
theorem blockB_stk{st:PS->Nd×PS}(hs:Stk st):Stk (blockB st):=λp h=>by
 unfold blockB at h;exact(need_e (stmtsF_stk hs _ _ _ (need_e h).2)).2
theorem cmdP_stk{ex:PS->Nd×PS}(hx:Stk ex)(k:Int):Stk (cmdP ex k):=λp h=>by
 have ha:(if k=19\/k=20 then localP p else if k=21\/k=25\/k=24 then([],p)else nameP p).2.e=0->p.e=0:=λh=>by
  split at h
  ·exact localP_stk p h
  ·split at h
   ·exact h
   ·exact nameP_stk p h
 unfold cmdP at h;generalize(if k=19\/k=20 then localP p else if k=21\/k=25\/k=24 then([],p)else nameP p)=a at h ha;simp only at h;split at h
 ·exact ha (hx _ h)
 ·split at h
  ·exact ha (localP_stk _ h)
  ·split at h
   ·exact ha (numeralP_stk _ _ h)
   ·exact ha h
theorem stmtB_stk{ex bl:PS->Nd×PS}(hx:Stk ex)(hb:Stk bl):Stk (stmtB ex bl):=λp h=>by
 unfold stmtB at h;simp only at h;split at h
 ·split at h
  ·exact hx p.skip (hb _ (hb (bl (ex p.skip).2).2.skip h))
  ·exact hx p.skip (hb _ h)
 ·split at h
  ·exact cmdP_stk hx _ p.skip (need_e h).2
  ·split at h
   ·exact localP_stk p (need_e (hx _ (need_e h).2)).2
   ·exact placeP_stk p (need_e (hx _ (need_e h).2)).2
theorem exprO_stk(r:Bool):Stk λq=>exprP r (q.l.length+1) q:=λp h=>exprP_stk r _ p h
theorem stmtP_stk(r:Bool):∀f,Stk (stmtP r f)
 |0=>λp h=>h
 |f+1=>λp h=>stmtB_stk (exprO_stk r) (blockB_stk (stmtP_stk r f)) p h
theorem itemsF_stk:∀(f:Nat) (ks:List Nd) (p:PS),(itemsF f ks p).2.e=0->p.e=0
 |0,_,_,h=>h
 |f+1,ks,p,h=>by
  unfold itemsF at h;split at h
  ·exact h
  ·exact nameP_stk p (need_e (numberP_stk _ (need_e (itemsF_stk f _ _ h)).2)).2
def Rl(x y:Nd×PS):Prop:=x.2=y.2/\(x.2.e=0->x.1=y.1)
def Rf(x y:PS->Nd×PS):Prop:=∀p,Rl (x p) (y p)
theorem Rl.refl(x:Nd×PS):Rl x x:=⟨rfl,λ_=>rfl⟩
theorem chainF_rl{lv:Int}{x y:PS->Nd×PS}(hx:Rf x y):∀(f:Nat) (n m:Nd) (p:PS),(p.e=0->n=m)->Rl (chainF lv x f n p) (chainF lv y f m p)
 |0,_,_,_,h=>⟨rfl,h⟩
 |f+1,n,m,p,h=>by
  unfold chainF;split
  ·exact⟨rfl,h⟩
  ·rename_i q;have hp:p.e=0:=by simpa using q
   split
   ·exact⟨rfl,λ_=>h hp⟩
   ·obtain⟨h1,h2⟩:=hx (opP lv p).2;rw[<-h1];exact chainF_rl hx f _ _ _ λhe=>by rw[h hp,h2 he]
theorem chainP_rl{lv:Int}{x y:PS->Nd×PS}(hx:Rf x y):Rf (chainP lv x) (chainP lv y):=λp=>by
 unfold chainP;obtain⟨h1,h2⟩:=hx p;rw[<-h1];exact chainF_rl hx _ _ _ _ h2
theorem factP_rl{x y:PS->Nd×PS}(hx:Rf x y):Rf (factP x) (factP y):=λp=>by
 unfold factP;split
 ·obtain⟨h1,h2⟩:=hx p.skip;rw[<-h1];exact⟨rfl,λh=>h2 (need_e h).2⟩
 ·exact Rl.refl _
theorem sumP_rl{x y:PS->Nd×PS}(hx:Rf x y):Rf (sumP x) (sumP y):=chainP_rl (chainP_rl (factP_rl hx))
theorem exprB_rl{x y:PS->Nd×PS}(hs:Stk x)(hx:Rf x y):Rf (exprB x) (exprB y):=λp=>by
 unfold exprB;simp only;obtain⟨h1,h2⟩:=sumP_rl hx p;rw[<-h1];split
 ·obtain⟨h3,h4⟩:=sumP_rl hx (opP 1 (sumP x p).2).2;rw[<-h3];exact⟨rfl,λh=>by rw[h2 (opP_stk 1 _ (sumP_stk hs _ h)),h4 h]⟩
 ·exact⟨rfl,λh=>h2 (opP_stk 1 _ h)⟩
theorem factP_bad{ex:PS->Nd×PS}{p:PS}(h:p.e≠0):(factP ex p).2=p:=by
 have hp:p.peek=[]:=by unfold PS.peek;rw[if_pos h]
 have hi:∀s,s≠[]->p.is s=false:=λs hs=>by
  unfold PS.is;rw[hp];simp only[Bool.and_eq_false_iff,decide_eq_false_iff_not];right;exact λe=>hs e.symm
 have hn:nameP p=([],p):=by
  unfold nameP;rw[hp];simp[isNameB,PS.fail,h]
 unfold factP;rw[hi _ bC,hi _ bC,hp];simp only[Bool.false_eq_true,if_false];unfold placeP;rw[hn];simp only;rw[hi _ bC];simp
theorem chainP_bad{lv:Int}{x:PS->Nd×PS}(hx:∀p,p.e≠0->(x p).2=p){p:PS}(h:p.e≠0):(chainP lv x p).2=p:=by
 unfold chainP chainF;rw[hx p h,if_pos h]
theorem exprB_bad{ex:PS->Nd×PS}{p:PS}(h:p.e≠0):(exprB ex p).2=p:=by
 have hs:(sumP ex p).2=p:=chainP_bad (λp h=>chainP_bad (λp h=>factP_bad h) h) h;have ho:opI 1 p.peek= -1:=by
  have:p.peek=[]:=by unfold PS.peek;rw[if_pos h]
  rw[this];decide
 unfold exprB;simp only[hs,opP,ho];simp
theorem exprP_rl:∀f,Rf (exprP false f) (exprP true f)
 |0=>λp=>Rl.refl _
 |f+1=>λp=>by
  unfold exprP;rw[if_neg aM];by_cases h:p.e≠0
  ·rw[if_pos ⟨rfl,h⟩];exact⟨exprB_bad h,λh'=>by rw[exprB_bad h]at h';exact absurd h' h⟩
  ·rw[if_neg (λq=>h q.2)];exact exprB_rl (exprP_stk false f) (exprP_rl f) p
theorem stmtsF_rl{x y:PS->Nd×PS}(hs:Stk x)(hx:Rf x y):∀(f:Nat) (ks js:List Nd) (p:PS),(p.e=0->ks=js)->(stmtsF x f ks p).2=(stmtsF y f js p).2/\((stmtsF x f ks p).2.e=0->(stmtsF x f ks p).1=(stmtsF y f js p).1)
 |0,_,_,_,h=>⟨rfl,h⟩
 |f+1,ks,js,p,h=>by
  unfold stmtsF;split
  ·exact⟨rfl,h⟩
  ·obtain⟨h1,h2⟩:=hx p;rw[<-h1];exact stmtsF_rl hs hx f _ _ _ λhe=>by rw[h (hs p he),h2 he]
theorem blockB_rl{x y:PS->Nd×PS}(hs:Stk x)(hx:Rf x y):Rf (blockB x) (blockB y):=λp=>by
 unfold blockB;simp only;obtain⟨h1,h2⟩:=stmtsF_rl hs hx ((p.need [123]).l.length+1) [] [] (p.need [123]) (λ_=>rfl);rw[<-h1];exact⟨rfl,λh=>by rw[h2 (need_e h).2]⟩
theorem cmdP_rl{x y:PS->Nd×PS}(hx:Rf x y)(k:Int):Rf (cmdP x k) (cmdP y k):=λp=>by
 unfold cmdP;generalize(if k=19\/k=20 then localP p else if k=21\/k=25\/k=24 then([],p)else nameP p)=a;simp only;split
 ·obtain⟨h1,h2⟩:=hx a.2;rw[<-h1];exact⟨rfl,λh=>by rw[h2 h]⟩
 ·exact Rl.refl _
theorem stmtB_rl{x y b c:PS->Nd×PS}(hs:Stk x)(hx:Rf x y)(ht:Stk b)(hb:Rf b c):Rf (stmtB x b) (stmtB y c):=λp=>by
 unfold stmtB;simp only;split
 ·obtain⟨h1,h2⟩:=hx p.skip;rw[<-h1];obtain⟨h3,h4⟩:=hb (x p.skip).2;rw[<-h3];split
  ·obtain⟨h5,h6⟩:=hb (b (x p.skip).2).2.skip;rw[<-h5];exact⟨rfl,λh=>by
    have e5:=ht _ h;rw[h6 h,h4 e5,h2 (ht _ e5)]⟩
  ·exact⟨rfl,λh=>by rw[h4 h,h2 (ht _ h)]⟩
 ·split
  ·obtain⟨h1,h2⟩:=cmdP_rl hx (kindP p.peek) p.skip;rw[<-h1];exact⟨rfl,λh=>h2 (need_e h).2⟩
  ·split
   ·obtain⟨h1,h2⟩:=hx ((localP p).2.need [61]);rw[<-h1];exact⟨rfl,λh=>by rw[h2 (need_e h).2]⟩
   ·obtain⟨h1,h2⟩:=hx ((placeP p).2.need [61]);rw[<-h1];exact⟨rfl,λh=>by rw[h2 (need_e h).2]⟩
theorem stmtP_rl:∀f,Rf (stmtP false f) (stmtP true f)
 |0=>λp=>Rl.refl _
 |f+1=>λp=>stmtB_rl (exprO_stk false) (λq=>exprP_rl _ q) (blockB_stk (stmtP_stk false f)) (blockB_rl (stmtP_stk false f) (stmtP_rl f)) p
theorem defP_rl:Rf (defP false) (defP true):=λp=>by
 unfold defP;simp only;generalize defKind p.peek=k;split
 ·exact Rl.refl _
 ·split
  ·obtain⟨h1,h2⟩:=blockB_rl (stmtP_stk false ((nameP p.skip).2.l.length+1)) (stmtP_rl ((nameP p.skip).2.l.length+1)) (nameP p.skip).2;unfold blockP;rw[<-h1];exact⟨rfl,λh=>by rw[h2 h]⟩
  ·exact Rl.refl _
end Go.Eng
