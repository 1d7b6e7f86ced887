/- Part 5 of the proof. No condition. -/
import Derived.Test.YtepoffhhiddlkaaGreatDoorMD
import Derived.Test.YtepoffhhiddlkaaGreatDoorProg
import Derived.KernelRfl
import Derived.Shelf.SortM.Plain
import Derived.Shelf.GgSortFunc.RowK
import Derived.Shelf.SlSortCmp.NoneTotal
import Derived.RangeFuncNested
import Derived.OwnWalkIn
import Derived.Scope
import Derived.OpenShut
import Derived.Lib.Strings
import Derived.Lib.Slices
import Derived.Lib.Walk
import Derived.Lib.Bytealg
open Go.Proofs
set_option linter.unusedVariables false
set_option linter.unusedSimpArgs false
set_option maxRecDepth 20000
set_option maxHeartbeats 4000000
namespace Go.Eng
def BT:List (Nat×eC):=
 [(2,⟨.int .i64,1,8,[.int .i64 0],[]⟩),(3,⟨.int .i64,1,8,[.int .i64 0],[]⟩),(4,⟨.bool,1,1,[.bool false],[]⟩),(5,⟨.int .u8,1,1,[.int .u8 0],[]⟩),(6,⟨.int .u8,1,1,[.int .u8 0],[]⟩),(9,⟨.str,1,16,[.string .empty],[]⟩),(10,⟨.str,1,16,[.string .empty],[]⟩),(11,⟨.str,1,16,[.string .empty],[]⟩),(12,⟨.int .u64,1,8,[.int .u64 0],[]⟩),(21,⟨.int .i32,1,4,[.int .i32 0],[]⟩),(22,⟨.slice 3,1,24,[.slice none 0 0],[]⟩),(23,⟨.slice 27,1,24,[.slice none 0 0],[]⟩),(24,⟨.other,1,8,[.nilFunc],[]⟩),(25,⟨.slice 30,1,24,[.slice none 0 0],[]⟩),(26,⟨.other,1,8,[.nilFunc],[]⟩),(27,⟨.slice 46,1,24,[.slice none 0 0],[]⟩),(28,⟨.struct [(0,3),(1,3)],2,16,[.int .i64 0,.int .i64 0],[.int .i64,.int .i64]⟩),(29,⟨.struct [(0,3),(1,3)],2,16,[.int .i64 0,.int .i64 0],[.int .i64,.int .i64]⟩),(30,⟨.arr 2 29,4,32,[.int .i64 0,.int .i64 0,.int .i64 0,.int .i64 0],[.int .i64,.int .i64,.int .i64,.int .i64]⟩),(31,⟨.slice 36,1,24,[.slice none 0 0],[]⟩),(32,⟨.other,1,8,[.nilFunc],[]⟩),(33,⟨.arr 16 5,16,16,(List.replicate 16 (.int .u8 0)),[.int .u8,.int .u8,.int .u8,.int .u8,.int .u8,.int .u8,.int .u8,.int .u8,.int .u8,.int .u8,.int .u8,.int .u8,.int .u8,.int .u8,.int .u8,.int .u8]⟩),(34,⟨.arr 16 5,16,16,(List.replicate 16 (.int .u8 0)),[.int .u8,.int .u8,.int .u8,.int .u8,.int .u8,.int .u8,.int .u8,.int .u8,.int .u8,.int .u8,.int .u8,.int .u8,.int .u8,.int .u8,.int .u8,.int .u8]⟩),(35,⟨.other,1,8,[.nilFunc],[]⟩),(36,⟨.slice 29,1,24,[.slice none 0 0],[]⟩),(37,⟨.other,1,8,[.nilFunc],[]⟩),(38,⟨.slice 5,1,24,[.slice none 0 0],[]⟩),(39,⟨.other,1,8,[.nilFunc],[]⟩),(40,⟨.other,1,8,[.nilFunc],[]⟩),(41,⟨.other,1,8,[.nilFunc],[]⟩),(42,⟨.other,1,8,[.nilFunc],[]⟩),(43,⟨.slice 61,1,24,[.slice none 0 0],[]⟩),(44,⟨.slice 9,1,24,[.slice none 0 0],[]⟩),(45,⟨.struct [(0,29),(2,36),(3,43),(4,44)],5,88,[.int .i64 0,.int .i64 0,.slice none 0 0,.slice none 0 0,.slice none 0 0],[]⟩),(46,⟨.struct [(0,29),(2,36),(3,43),(4,44)],5,88,[.int .i64 0,.int .i64 0,.slice none 0 0,.slice none 0 0,.slice none 0 0],[]⟩),(47,⟨.other,1,8,[.nilFunc],[]⟩),(48,⟨.other,1,8,[.nilFunc],[]⟩),(49,⟨.other,1,8,[.nilFunc],[]⟩),(50,⟨.other,1,8,[.nilFunc],[]⟩),(51,⟨.slice 43,1,24,[.slice none 0 0],[]⟩),(52,⟨.other,1,8,[.nilFunc],[]⟩),(53,⟨.other,1,8,[.nilFunc],[]⟩),(54,⟨.slice 56,1,24,[.slice none 0 0],[]⟩),(55,⟨.struct [(0,3),(1,9),(2,3),(3,54)],4,56,[.int .i64 0,.string .empty,.int .i64 0,.slice none 0 0],[]⟩),(56,⟨.struct [(0,3),(1,9),(2,3),(3,54)],4,56,[.int .i64 0,.string .empty,.int .i64 0,.slice none 0 0],[]⟩),(57,⟨.int .i64,1,8,[.int .i64 0],[]⟩),(59,⟨.other,1,8,[.nilFunc],[]⟩),(60,⟨.struct [(0,9),(1,9)],2,32,[.string .empty,.string .empty],[.str,.str]⟩),(61,⟨.struct [(0,9),(1,9)],2,32,[.string .empty,.string .empty],[.str,.str]⟩),(63,⟨.other,1,8,[.nilFunc],[]⟩),(64,⟨.other,1,8,[.nilFunc],[]⟩),(65,⟨.other,1,8,[.nilFunc],[]⟩),(68,⟨.other,1,8,[.nilFunc],[]⟩),(70,⟨.other,1,8,[.nilFunc],[]⟩),(71,⟨.other,1,8,[.nilFunc],[]⟩),(72,⟨.other,1,8,[.nilFunc],[]⟩),(74,⟨.other,1,8,[.nilFunc],[]⟩),(77,⟨.other,1,8,[.nilFunc],[]⟩),(78,⟨.other,1,8,[.nilFunc],[]⟩),(80,⟨.other,1,8,[.nilFunc],[]⟩),(82,⟨.other,1,8,[.nilFunc],[]⟩),(84,⟨.other,1,8,[.nilFunc],[]⟩),(87,⟨.other,1,8,[.nilFunc],[]⟩),(89,⟨.other,1,8,[.nilFunc],[]⟩),(90,⟨.int .u32,1,4,[.int .u32 0],[]⟩),(91,⟨.arr 8 90,8,32,[.int .u32 0,.int .u32 0,.int .u32 0,.int .u32 0,.int .u32 0,.int .u32 0,.int .u32 0,.int .u32 0],[]⟩),(92,⟨.arr 64 5,64,64,(List.replicate 64 (.int .u8 0)),[]⟩),(93,⟨.int .u64,1,8,[.int .u64 0],[]⟩),(95,⟨.struct [(0,91),(8,92),(72,93)],73,104,[.int .u32 0,.int .u32 0,.int .u32 0,.int .u32 0,.int .u32 0,.int .u32 0,.int .u32 0,.int .u32 0,.int .u8 0,.int .u8 0,.int .u8 0,.int .u8 0,.int .u8 0,.int .u8 0,.int .u8 0,.int .u8 0,.int .u8 0,.int .u8 0,.int .u8 0,.int .u8 0,.int .u8 0,.int .u8 0,.int .u8 0,.int .u8 0,.int .u8 0,.int .u8 0,.int .u8 0,.int .u8 0,.int .u8 0,.int .u8 0,.int .u8 0,.int .u8 0,.int .u8 0,.int .u8 0,.int .u8 0,.int .u8 0,.int .u8 0,.int .u8 0,.int .u8 0,.int .u8 0,.int .u8 0,.int .u8 0,.int .u8 0,.int .u8 0,.int .u8 0,.int .u8 0,.int .u8 0,.int .u8 0,.int .u8 0,.int .u8 0,.int .u8 0,.int .u8 0,.int .u8 0,.int .u8 0,.int .u8 0,.int .u8 0,.int .u8 0,.int .u8 0,.int .u8 0,.int .u8 0,.int .u8 0,.int .u8 0,.int .u8 0,.int .u8 0,.int .u8 0,.int .u8 0,.int .u8 0,.int .u8 0,.int .u8 0,.int .u8 0,.int .u8 0,.int .u8 0,.int .u64 0],[]⟩),(97,⟨.other,1,8,[.nilFunc],[]⟩),(98,⟨.other,1,8,[.nilFunc],[]⟩),(99,⟨.arr 32 5,32,32,(List.replicate 32 (.int .u8 0)),[]⟩),(102,⟨.other,1,8,[.nilFunc],[]⟩),(103,⟨.other,1,8,[.nilFunc],[]⟩),(104,⟨.other,1,8,[.nilFunc],[]⟩),(108,⟨.other,1,8,[.nilFunc],[]⟩),(112,⟨.other,1,8,[.nilFunc],[]⟩),(113,⟨.other,1,8,[.nilFunc],[]⟩),(114,⟨.other,1,8,[.nilFunc],[]⟩),(115,⟨.other,1,8,[.nilFunc],[]⟩),(116,⟨.other,1,8,[.nilFunc],[]⟩),(118,⟨.other,1,8,[.nilFunc],[]⟩),(120,⟨.slice 128,1,24,[.slice none 0 0],[]⟩),(123,⟨.ptr 125,1,8,[.pointer none],[]⟩),(124,⟨.struct [(0,120),(1,57)],2,32,[.slice none 0 0,.int .i64 0],[]⟩),(125,⟨.struct [(0,120),(1,57)],2,32,[.slice none 0 0,.int .i64 0],[]⟩),(127,⟨.struct [(0,9),(1,3)],2,24,[.string .empty,.int .i64 0],[.str,.int .i64]⟩),(128,⟨.struct [(0,9),(1,3)],2,24,[.string .empty,.int .i64 0],[.str,.int .i64]⟩),(129,⟨.other,1,8,[.nilFunc],[]⟩),(133,⟨.other,1,8,[.nilFunc],[]⟩),(134,⟨.other,1,8,[.nilFunc],[]⟩),(135,⟨.other,1,8,[.nilFunc],[]⟩),(136,⟨.map 9 3,1,8,[.map none],[]⟩),(137,⟨.struct [(0,54),(1,136)],2,32,[.slice none 0 0,.map none],[]⟩),(143,⟨.other,1,8,[.nilFunc],[]⟩),(144,⟨.map 9 4,1,8,[.map none],[]⟩),(145,⟨.other,1,8,[.nilFunc],[]⟩),(148,⟨.struct [(0,3),(1,9),(2,9)],3,40,[.int .i64 0,.string .empty,.string .empty],[.int .i64,.str,.str]⟩),(149,⟨.struct [(0,3),(1,9),(2,9)],3,40,[.int .i64 0,.string .empty,.string .empty],[.int .i64,.str,.str]⟩),(151,⟨.other,1,8,[.nilFunc],[]⟩),(152,⟨.other,1,8,[.nilFunc],[]⟩),(156,⟨.other,1,8,[.nilFunc],[]⟩),(166,⟨.int .u64,1,8,[.int .u64 0],[]⟩),(169,⟨.other,1,8,[.nilFunc],[]⟩),(172,⟨.other,1,8,[.nilFunc],[]⟩),(173,⟨.other,1,8,[.nilFunc],[]⟩),(176,⟨.other,1,8,[.nilFunc],[]⟩),(185,⟨.slice 38,1,24,[.slice none 0 0],[]⟩),(188,⟨.other,1,8,[.nilFunc],[]⟩),(189,⟨.other,1,8,[.nilFunc],[]⟩),(191,⟨.map 29 4,1,8,[.map none],[]⟩),(194,⟨.map 9 61,1,8,[.map none],[]⟩),(210,⟨.other,1,8,[.nilFunc],[]⟩),(211,⟨.other,1,8,[.nilFunc],[]⟩),(212,⟨.other,1,8,[.nilFunc],[]⟩),(213,⟨.other,1,8,[.nilFunc],[]⟩),(215,⟨.other,1,8,[.nilFunc],[]⟩),(229,⟨.arr 64 90,64,256,(List.replicate 64 (.int .u32 0)),[]⟩),(231,⟨.arr 4 90,4,16,[.int .u32 0,.int .u32 0,.int .u32 0,.int .u32 0],[]⟩),(232,⟨.slice 90,1,24,[.slice none 0 0],[]⟩),(235,⟨.int .i64,1,8,[.int .i64 0],[]⟩),(243,⟨.other,1,8,[.nilFunc],[]⟩),(281,⟨.int .u64,1,8,[.int .u64 0],[]⟩),(285,⟨.ptr 3,1,8,[.pointer none],[]⟩),(297,⟨.ptr 281,1,8,[.pointer none],[]⟩)]
def T:TypeId->eC:=mB BT
theorem hT:fC Go.Proofs.Tryz.prog T:=II (by kernel_rfl)
theorem hW:zO T:=KP (by kernel_rfl)
@[simp] theorem t2:T 2=⟨.int .i64,1,8,[.int .i64 0],[]⟩:=by kernel_rfl
@[simp] theorem t3:T 3=⟨.int .i64,1,8,[.int .i64 0],[]⟩:=by kernel_rfl
@[simp] theorem t4:T 4=⟨.bool,1,1,[.bool false],[]⟩:=by kernel_rfl
@[simp] theorem t5:T 5=⟨.int .u8,1,1,[.int .u8 0],[]⟩:=by kernel_rfl
@[simp] theorem t6:T 6=⟨.int .u8,1,1,[.int .u8 0],[]⟩:=by kernel_rfl
@[simp] theorem t9:T 9=⟨.str,1,16,[.string .empty],[]⟩:=by kernel_rfl
@[simp] theorem RA:T 10=⟨.str,1,16,[.string .empty],[]⟩:=by kernel_rfl
@[simp] theorem RB:T 11=⟨.str,1,16,[.string .empty],[]⟩:=by kernel_rfl
@[simp] theorem RC:T 12=⟨.int .u64,1,8,[.int .u64 0],[]⟩:=by kernel_rfl
@[simp] theorem RE:T 21=⟨.int .i32,1,4,[.int .i32 0],[]⟩:=by kernel_rfl
@[simp] theorem t22:T 22=⟨.slice 3,1,24,[.slice none 0 0],[]⟩:=by kernel_rfl
@[simp] theorem RG:T 23=⟨.slice 27,1,24,[.slice none 0 0],[]⟩:=by kernel_rfl
@[simp] theorem RH:T 24=⟨.other,1,8,[.nilFunc],[]⟩:=by kernel_rfl
@[simp] theorem t25:T 25=⟨.slice 30,1,24,[.slice none 0 0],[]⟩:=by kernel_rfl
@[simp] theorem t26:T 26=⟨.other,1,8,[.nilFunc],[]⟩:=by kernel_rfl
@[simp] theorem t27:T 27=⟨.slice 46,1,24,[.slice none 0 0],[]⟩:=by kernel_rfl
@[simp] theorem RI:T 28=⟨.struct [(0,3),(1,3)],2,16,[.int .i64 0,.int .i64 0],[.int .i64,.int .i64]⟩:=by kernel_rfl
@[simp] theorem t29:T 29=⟨.struct [(0,3),(1,3)],2,16,[.int .i64 0,.int .i64 0],[.int .i64,.int .i64]⟩:=by kernel_rfl
@[simp] theorem RJ:T 30=⟨.arr 2 29,4,32,[.int .i64 0,.int .i64 0,.int .i64 0,.int .i64 0],[.int .i64,.int .i64,.int .i64,.int .i64]⟩:=by kernel_rfl
@[simp] theorem RK:T 31=⟨.slice 36,1,24,[.slice none 0 0],[]⟩:=by kernel_rfl
@[simp] theorem t32:T 32=⟨.other,1,8,[.nilFunc],[]⟩:=by kernel_rfl
@[simp] theorem RL:T 33=⟨.arr 16 5,16,16,(List.replicate 16 (.int .u8 0)),[.int .u8,.int .u8,.int .u8,.int .u8,.int .u8,.int .u8,.int .u8,.int .u8,.int .u8,.int .u8,.int .u8,.int .u8,.int .u8,.int .u8,.int .u8,.int .u8]⟩:=by kernel_rfl
@[simp] theorem RM:T 34=⟨.arr 16 5,16,16,(List.replicate 16 (.int .u8 0)),[.int .u8,.int .u8,.int .u8,.int .u8,.int .u8,.int .u8,.int .u8,.int .u8,.int .u8,.int .u8,.int .u8,.int .u8,.int .u8,.int .u8,.int .u8,.int .u8]⟩:=by kernel_rfl
@[simp] theorem t35:T 35=⟨.other,1,8,[.nilFunc],[]⟩:=by kernel_rfl
@[simp] theorem t36:T 36=⟨.slice 29,1,24,[.slice none 0 0],[]⟩:=by kernel_rfl
@[simp] theorem RN:T 37=⟨.other,1,8,[.nilFunc],[]⟩:=by kernel_rfl
@[simp] theorem RO:T 38=⟨.slice 5,1,24,[.slice none 0 0],[]⟩:=by kernel_rfl
@[simp] theorem t39:T 39=⟨.other,1,8,[.nilFunc],[]⟩:=by kernel_rfl
@[simp] theorem RP:T 40=⟨.other,1,8,[.nilFunc],[]⟩:=by kernel_rfl
@[simp] theorem t41:T 41=⟨.other,1,8,[.nilFunc],[]⟩:=by kernel_rfl
@[simp] theorem RQ:T 42=⟨.other,1,8,[.nilFunc],[]⟩:=by kernel_rfl
@[simp] theorem RR:T 43=⟨.slice 61,1,24,[.slice none 0 0],[]⟩:=by kernel_rfl
@[simp] theorem t44:T 44=⟨.slice 9,1,24,[.slice none 0 0],[]⟩:=by kernel_rfl
@[simp] theorem t45:T 45=⟨.struct [(0,29),(2,36),(3,43),(4,44)],5,88,[.int .i64 0,.int .i64 0,.slice none 0 0,.slice none 0 0,.slice none 0 0],[]⟩:=by kernel_rfl
@[simp] theorem t46:T 46=⟨.struct [(0,29),(2,36),(3,43),(4,44)],5,88,[.int .i64 0,.int .i64 0,.slice none 0 0,.slice none 0 0,.slice none 0 0],[]⟩:=by kernel_rfl
@[simp] theorem RS:T 47=⟨.other,1,8,[.nilFunc],[]⟩:=by kernel_rfl
@[simp] theorem RT:T 48=⟨.other,1,8,[.nilFunc],[]⟩:=by kernel_rfl
@[simp] theorem RU:T 49=⟨.other,1,8,[.nilFunc],[]⟩:=by kernel_rfl
@[simp] theorem t50:T 50=⟨.other,1,8,[.nilFunc],[]⟩:=by kernel_rfl
@[simp] theorem RW:T 51=⟨.slice 43,1,24,[.slice none 0 0],[]⟩:=by kernel_rfl
@[simp] theorem RX:T 52=⟨.other,1,8,[.nilFunc],[]⟩:=by kernel_rfl
@[simp] theorem t53:T 53=⟨.other,1,8,[.nilFunc],[]⟩:=by kernel_rfl
@[simp] theorem RY:T 54=⟨.slice 56,1,24,[.slice none 0 0],[]⟩:=by kernel_rfl
@[simp] theorem t55:T 55=⟨.struct [(0,3),(1,9),(2,3),(3,54)],4,56,[.int .i64 0,.string .empty,.int .i64 0,.slice none 0 0],[]⟩:=by kernel_rfl
@[simp] theorem RZ:T 56=⟨.struct [(0,3),(1,9),(2,3),(3,54)],4,56,[.int .i64 0,.string .empty,.int .i64 0,.slice none 0 0],[]⟩:=by kernel_rfl
@[simp] theorem t57:T 57=⟨.int .i64,1,8,[.int .i64 0],[]⟩:=by kernel_rfl
@[simp] theorem Sa:T 59=⟨.other,1,8,[.nilFunc],[]⟩:=by kernel_rfl
@[simp] theorem Sb:T 60=⟨.struct [(0,9),(1,9)],2,32,[.string .empty,.string .empty],[.str,.str]⟩:=by kernel_rfl
@[simp] theorem Sc:T 61=⟨.struct [(0,9),(1,9)],2,32,[.string .empty,.string .empty],[.str,.str]⟩:=by kernel_rfl
@[simp] theorem t63:T 63=⟨.other,1,8,[.nilFunc],[]⟩:=by kernel_rfl
@[simp] theorem t64:T 64=⟨.other,1,8,[.nilFunc],[]⟩:=by kernel_rfl
@[simp] theorem Sd:T 65=⟨.other,1,8,[.nilFunc],[]⟩:=by kernel_rfl
@[simp] theorem Se:T 68=⟨.other,1,8,[.nilFunc],[]⟩:=by kernel_rfl
@[simp] theorem t70:T 70=⟨.other,1,8,[.nilFunc],[]⟩:=by kernel_rfl
@[simp] theorem Sf:T 71=⟨.other,1,8,[.nilFunc],[]⟩:=by kernel_rfl
@[simp] theorem Sg:T 72=⟨.other,1,8,[.nilFunc],[]⟩:=by kernel_rfl
@[simp] theorem Sh:T 74=⟨.other,1,8,[.nilFunc],[]⟩:=by kernel_rfl
@[simp] theorem t77:T 77=⟨.other,1,8,[.nilFunc],[]⟩:=by kernel_rfl
@[simp] theorem Si:T 78=⟨.other,1,8,[.nilFunc],[]⟩:=by kernel_rfl
@[simp] theorem Sj:T 80=⟨.other,1,8,[.nilFunc],[]⟩:=by kernel_rfl
@[simp] theorem Sk:T 82=⟨.other,1,8,[.nilFunc],[]⟩:=by kernel_rfl
@[simp] theorem Sl:T 84=⟨.other,1,8,[.nilFunc],[]⟩:=by kernel_rfl
@[simp] theorem Sm:T 87=⟨.other,1,8,[.nilFunc],[]⟩:=by kernel_rfl
@[simp] theorem Sn:T 89=⟨.other,1,8,[.nilFunc],[]⟩:=by kernel_rfl
@[simp] theorem So:T 90=⟨.int .u32,1,4,[.int .u32 0],[]⟩:=by kernel_rfl
@[simp] theorem Sp:T 91=⟨.arr 8 90,8,32,[.int .u32 0,.int .u32 0,.int .u32 0,.int .u32 0,.int .u32 0,.int .u32 0,.int .u32 0,.int .u32 0],[]⟩:=by kernel_rfl
@[simp] theorem Sq:T 92=⟨.arr 64 5,64,64,(List.replicate 64 (.int .u8 0)),[]⟩:=by kernel_rfl
@[simp] theorem Sr:T 93=⟨.int .u64,1,8,[.int .u64 0],[]⟩:=by kernel_rfl
@[simp] theorem Ss:T 95=⟨.struct [(0,91),(8,92),(72,93)],73,104,[.int .u32 0,.int .u32 0,.int .u32 0,.int .u32 0,.int .u32 0,.int .u32 0,.int .u32 0,.int .u32 0,.int .u8 0,.int .u8 0,.int .u8 0,.int .u8 0,.int .u8 0,.int .u8 0,.int .u8 0,.int .u8 0,.int .u8 0,.int .u8 0,.int .u8 0,.int .u8 0,.int .u8 0,.int .u8 0,.int .u8 0,.int .u8 0,.int .u8 0,.int .u8 0,.int .u8 0,.int .u8 0,.int .u8 0,.int .u8 0,.int .u8 0,.int .u8 0,.int .u8 0,.int .u8 0,.int .u8 0,.int .u8 0,.int .u8 0,.int .u8 0,.int .u8 0,.int .u8 0,.int .u8 0,.int .u8 0,.int .u8 0,.int .u8 0,.int .u8 0,.int .u8 0,.int .u8 0,.int .u8 0,.int .u8 0,.int .u8 0,.int .u8 0,.int .u8 0,.int .u8 0,.int .u8 0,.int .u8 0,.int .u8 0,.int .u8 0,.int .u8 0,.int .u8 0,.int .u8 0,.int .u8 0,.int .u8 0,.int .u8 0,.int .u8 0,.int .u8 0,.int .u8 0,.int .u8 0,.int .u8 0,.int .u8 0,.int .u8 0,.int .u8 0,.int .u8 0,.int .u64 0],[]⟩:=by kernel_rfl
@[simp] theorem St:T 97=⟨.other,1,8,[.nilFunc],[]⟩:=by kernel_rfl
@[simp] theorem Su:T 98=⟨.other,1,8,[.nilFunc],[]⟩:=by kernel_rfl
@[simp] theorem Sv:T 99=⟨.arr 32 5,32,32,(List.replicate 32 (.int .u8 0)),[]⟩:=by kernel_rfl
@[simp] theorem Qu:T 102=⟨.other,1,8,[.nilFunc],[]⟩:=by kernel_rfl
@[simp] theorem Qv:T 103=⟨.other,1,8,[.nilFunc],[]⟩:=by kernel_rfl
@[simp] theorem Qw:T 104=⟨.other,1,8,[.nilFunc],[]⟩:=by kernel_rfl
@[simp] theorem Qx:T 108=⟨.other,1,8,[.nilFunc],[]⟩:=by kernel_rfl
@[simp] theorem Qy:T 112=⟨.other,1,8,[.nilFunc],[]⟩:=by kernel_rfl
@[simp] theorem Qz:T 113=⟨.other,1,8,[.nilFunc],[]⟩:=by kernel_rfl
@[simp] theorem QA:T 114=⟨.other,1,8,[.nilFunc],[]⟩:=by kernel_rfl
@[simp] theorem QB:T 115=⟨.other,1,8,[.nilFunc],[]⟩:=by kernel_rfl
@[simp] theorem QC:T 116=⟨.other,1,8,[.nilFunc],[]⟩:=by kernel_rfl
@[simp] theorem QD:T 118=⟨.other,1,8,[.nilFunc],[]⟩:=by kernel_rfl
@[simp] theorem QE:T 120=⟨.slice 128,1,24,[.slice none 0 0],[]⟩:=by kernel_rfl
@[simp] theorem QF:T 123=⟨.ptr 125,1,8,[.pointer none],[]⟩:=by kernel_rfl
@[simp] theorem QG:T 124=⟨.struct [(0,120),(1,57)],2,32,[.slice none 0 0,.int .i64 0],[]⟩:=by kernel_rfl
@[simp] theorem QH:T 125=⟨.struct [(0,120),(1,57)],2,32,[.slice none 0 0,.int .i64 0],[]⟩:=by kernel_rfl
@[simp] theorem QI:T 127=⟨.struct [(0,9),(1,3)],2,24,[.string .empty,.int .i64 0],[.str,.int .i64]⟩:=by kernel_rfl
@[simp] theorem QJ:T 128=⟨.struct [(0,9),(1,3)],2,24,[.string .empty,.int .i64 0],[.str,.int .i64]⟩:=by kernel_rfl
@[simp] theorem QK:T 129=⟨.other,1,8,[.nilFunc],[]⟩:=by kernel_rfl
@[simp] theorem QL:T 133=⟨.other,1,8,[.nilFunc],[]⟩:=by kernel_rfl
@[simp] theorem QM:T 134=⟨.other,1,8,[.nilFunc],[]⟩:=by kernel_rfl
@[simp] theorem QN:T 135=⟨.other,1,8,[.nilFunc],[]⟩:=by kernel_rfl
@[simp] theorem QO:T 136=⟨.map 9 3,1,8,[.map none],[]⟩:=by kernel_rfl
@[simp] theorem QP:T 137=⟨.struct [(0,54),(1,136)],2,32,[.slice none 0 0,.map none],[]⟩:=by kernel_rfl
@[simp] theorem QQ:T 143=⟨.other,1,8,[.nilFunc],[]⟩:=by kernel_rfl
@[simp] theorem QR:T 144=⟨.map 9 4,1,8,[.map none],[]⟩:=by kernel_rfl
@[simp] theorem QS:T 145=⟨.other,1,8,[.nilFunc],[]⟩:=by kernel_rfl
@[simp] theorem QT:T 148=⟨.struct [(0,3),(1,9),(2,9)],3,40,[.int .i64 0,.string .empty,.string .empty],[.int .i64,.str,.str]⟩:=by kernel_rfl
@[simp] theorem QU:T 149=⟨.struct [(0,3),(1,9),(2,9)],3,40,[.int .i64 0,.string .empty,.string .empty],[.int .i64,.str,.str]⟩:=by kernel_rfl
@[simp] theorem QV:T 151=⟨.other,1,8,[.nilFunc],[]⟩:=by kernel_rfl
@[simp] theorem QW:T 152=⟨.other,1,8,[.nilFunc],[]⟩:=by kernel_rfl
@[simp] theorem QX:T 156=⟨.other,1,8,[.nilFunc],[]⟩:=by kernel_rfl
@[simp] theorem QY:T 166=⟨.int .u64,1,8,[.int .u64 0],[]⟩:=by kernel_rfl
@[simp] theorem QZ:T 169=⟨.other,1,8,[.nilFunc],[]⟩:=by kernel_rfl
@[simp] theorem Ra:T 172=⟨.other,1,8,[.nilFunc],[]⟩:=by kernel_rfl
@[simp] theorem Rb:T 173=⟨.other,1,8,[.nilFunc],[]⟩:=by kernel_rfl
@[simp] theorem Rc:T 176=⟨.other,1,8,[.nilFunc],[]⟩:=by kernel_rfl
@[simp] theorem Rd:T 185=⟨.slice 38,1,24,[.slice none 0 0],[]⟩:=by kernel_rfl
@[simp] theorem Re:T 188=⟨.other,1,8,[.nilFunc],[]⟩:=by kernel_rfl
@[simp] theorem Rf:T 189=⟨.other,1,8,[.nilFunc],[]⟩:=by kernel_rfl
@[simp] theorem Py:T 191=⟨.map 29 4,1,8,[.map none],[]⟩:=by kernel_rfl
@[simp] theorem OK:T 194=⟨.map 9 61,1,8,[.map none],[]⟩:=by kernel_rfl
@[simp] theorem Rg:T 210=⟨.other,1,8,[.nilFunc],[]⟩:=by kernel_rfl
@[simp] theorem Rh:T 211=⟨.other,1,8,[.nilFunc],[]⟩:=by kernel_rfl
@[simp] theorem Ri:T 212=⟨.other,1,8,[.nilFunc],[]⟩:=by kernel_rfl
@[simp] theorem Rj:T 213=⟨.other,1,8,[.nilFunc],[]⟩:=by kernel_rfl
@[simp] theorem Rk:T 215=⟨.other,1,8,[.nilFunc],[]⟩:=by kernel_rfl
@[simp] theorem Rl:T 229=⟨.arr 64 90,64,256,(List.replicate 64 (.int .u32 0)),[]⟩:=by kernel_rfl
@[simp] theorem Rm:T 231=⟨.arr 4 90,4,16,[.int .u32 0,.int .u32 0,.int .u32 0,.int .u32 0],[]⟩:=by kernel_rfl
@[simp] theorem Rn:T 232=⟨.slice 90,1,24,[.slice none 0 0],[]⟩:=by kernel_rfl
@[simp] theorem Ro:T 235=⟨.int .i64,1,8,[.int .i64 0],[]⟩:=by kernel_rfl
@[simp] theorem Rp:T 243=⟨.other,1,8,[.nilFunc],[]⟩:=by kernel_rfl
@[simp] theorem Rq:T 281=⟨.int .u64,1,8,[.int .u64 0],[]⟩:=by kernel_rfl
@[simp] theorem Rr:T 285=⟨.ptr 3,1,8,[.pointer none],[]⟩:=by kernel_rfl
@[simp] theorem Rs:T 297=⟨.ptr 281,1,8,[.pointer none],[]⟩:=by kernel_rfl
section
open Go.RowKit Go.Shelf Go.Sort Go.Proofs
theorem Lv{W w':World}(h:BP W.heap.size W w'):∃q os',w'=grow (W.drewN q) os':=by
 refine⟨w'.drawn-W.drawn,w'.heap.extract W.heap.size w'.heap.size,?_⟩;obtain⟨heap,tape,drawn,os,output⟩:=w';obtain⟨h1,h2,h3,h4,h5,h6⟩:=h;simp only at h1 h2 h3 h4 h5 h6;subst h1;subst h2;subst h3;unfold grow World.drewN;congr 1
 ·apply Array.ext_getElem?;intro i;rw[Array.getElem?_append];by_cases hi:i<W.heap.size
  ·simp only[hi,if_true];exact h5 i hi
  ·simp only[hi,if_false];rw[Array.getElem?_extract];by_cases hj:i<heap.size
   ·simp[show i-W.heap.size<heap.size-W.heap.size by omega,show W.heap.size+(i-W.heap.size)=i by omega]
   ·simp[hj];omega
 ·simp only;omega
structure sG{α:Type}(k:Nat)(d:α->DV)(enc:α->List Value):Prop where
 pos:0<k
 len:∀x,(enc x).length=k
 lenD:∀x,(aK (d x)).length=k
 one:∀x,∀v∈enc x,v.oneCell'=true
 cell:∀(x:α) (i:Nat) (c:DV) (v:Value),(aK (d x))[i]? =some c->(enc x)[i]? =some v->∀w E u,RD w E c u↔u=v
theorem nC{α:Type}[Inhabited α]{k:Nat}{d:α->DV}{enc:α->List Value}(C:sG k d enc)(l:List α):(flatK enc k l.toArray).toList=l.flatMap enc:=by
 have hk:=C.pos;apply List.ext_getElem?;intro i;by_cases hi:i<l.length*k
 ·have hlt:i / k<l.length:=(Nat.div_lt_iff_lt_mul hk).2 hi;have hm:=Nat.mod_lt i hk;have e1:(l.flatMap enc)[i]? =(enc l[i / k])[i%k]? :=by
   have key:∀(l:List α) (q r:Nat) (hq:q<l.length),r<k->(l.flatMap enc)[q*k+r]? =(enc l[q])[r]? :=by
    intro l;induction l with
    |nil=>intro q r hq;simp at hq
    |cons x t ih=>
     intro q r hq hr;simp only[List.flatMap_cons];cases q with
     |zero=>rw[Nat.zero_mul,Nat.zero_add,List.getElem?_append_left (by rw[C.len];exact hr)];rfl
     |succ q=>
      rw[List.getElem?_append_right (by rw[C.len,Nat.add_mul];omega),C.len,show(q+1)*k+r-k=q*k+r by rw[Nat.add_mul];omega];exact ih q r (by simpa using hq) hr
   have:=key l (i / k) (i%k) hlt hm;rw[show i / k*k+i%k=i by rw[Nat.mul_comm];exact Nat.div_add_mod _ _]at this;exact this
  rw[e1];have hr:i%k<(enc l[i / k]).length:=by rw[C.len];exact hm
  have e2:(flatK enc k l.toArray)[i]? =some ((enc l.toArray[i / k]!)[i%k]!):=by simp[flatK,hi]
  rw[Array.getElem?_toList,e2,List.getElem?_eq_getElem hr];simp[hlt,hr]
 ·rw[List.getElem?_eq_none (by simp[flatK];omega),List.getElem?_eq_none];have:(l.flatMap enc).length=l.length*k:=by
   clear hi;induction l with
   |nil=>simp
   |cons x t ih=>simp only[List.flatMap_cons,List.length_append,C.len,ih,List.length_cons,Nat.add_mul];omega
  omega
section
variable{P:Program} {ρ:Ren} {α:Type} [Inhabited α]
theorem nD{α:Type}{k:Nat}{d:α->DV}{enc:α->List Value}(C:sG k d enc):∀(l:List α) (i:Nat) (c:DV) (v:Value),(bB (l.map d))[i]? =some c->(l.flatMap enc)[i]? =some v->∀w E u,RD w E c u↔u=v
 |[],i,c,v,hc,_=>by simp[bB]at hc
 |x::t,i,c,v,hc,hv=>by
  simp only[List.map_cons,bB,List.flatMap_cons]at hc hv;by_cases hi:i<k
  ·rw[List.getElem?_append_left (by rw[C.lenD];exact hi)]at hc;rw[List.getElem?_append_left (by rw[C.len];exact hi)]at hv;exact C.cell x i c v hc hv
  ·rw[List.getElem?_append_right (by rw[C.lenD];omega),C.lenD]at hc;rw[List.getElem?_append_right (by rw[C.len];omega),C.len]at hv;exact nD C t (i-k) c v hc hv
end
end
section
open Go.RowKit Go.Shelf Go.Sort Go.Proofs
section
variable{P:Program} {ρ:Ren} {α:Type} [Inhabited α]
theorem EW(L:SlLaysF0.n6 P ρ){k:Nat}{d:α->DV}{enc:α->List Value}(C:sG k d enc)(hagg:∀x w E v,RD w E (d x) v↔v=.agg (enc x).toArray)(aE:∀w,(isAgg (ρ.t 24)).run P w=.ok true w)(zE:∀w,(Go.sizeOf (ρ.t 24)).run P w=.ok k w)(cf:α->α->Int)(hO:SWO (ltOf cf))
 (hT:∀x y,(ltOf cf) x y=false->(ltOf cf) y x=false->x=y)(g:Nat)(hcmp:∀x y,Ok P g [d x,d y] ⟨.d (.int .i64 (cf x y)),true⟩)(hcl:pA P (ρ.f 6))(l:List α)(hl:l.length<=8000000000000):
 BO P (ρ.f 6) [.ow 0 0 l.length,.d (.fn g [])] [(0,.row false k (l.map d))] [(0,.row false k ((l.mergeSort λx y=> !(ltOf cf) y x).map d))] (.tup []):=by
 have eg:∀args w,(callFunc g args).run P w=.ok (.enter g args) w:=λargs w=>by
  obtain⟨fn,hf,hname,hb⟩:=(hcmp default default).1;have h1:fn.name≠ "runtime.NumGoroutine" :=by simpa using hname
  obtain⟨c,hc⟩:=Option.isSome_iff_exists.1 hb;simp[callFunc,hf,h1,hc]
 refine⟨hcl,λw X β vs m hvl hr=>?_⟩;have hH:aL [(0,aV.row false k (l.map d))] 0=.row false k (l.map d):=by simp[aL,gP]
 have hfin:∀o,aL [(0,o)]=bU (aL [(0,aV.row false k (l.map d))]) 0 o:=λo=>by
  funext j;simp only[aL,gP,bU];split<;>rfl
 generalize hHd:aL [(0,aV.row false k (l.map d))]=H at*
 match vs,hvl with
 |[v0,v1],_=>
 have r0:=hr 0 _ _ rfl rfl;have r1:=hr 1 _ _ rfl rfl;have e1:v1=.func (.func g) #[] #[]:=by
  cases r1 with
  |d _ _ h=>cases h with
   |fn _ _ us hl _=>have:us=[]:=List.eq_nil_of_length_eq_zero hl;subst this;rfl
 subst e1;have hlen:(l.map d).length=l.length:=by simp
 rcases lQ m hH r0 with⟨b,c,cur,e,rfl,hb,hkn,hn,hc,hblk,hroom,hcap⟩|⟨p,rfl,hz,_⟩
 ·have hob:=m.obj 0;simp only[cP,hH]at hob;obtain⟨hpos,hall,hob⟩:=hob;rcases hob with⟨hnone,_⟩|⟨b',e',cur',hb',hblk',hlen',hpo⟩
  ·rw[hnone]at hb;cases hb
  rw[hb]at hb';injection hb' with hb';subst hb'
  rw[hblk]at hblk';injection hblk' with hblk';injection hblk' with p1 p2;subst p1;subst p2
  have hfl:(l.flatMap enc).length=l.length*k:=by
   rw[<-nC C l];simp
  have hfd:(bB (l.map d)).length=l.length*k:=by rw[flat_len hall,hlen]
  rw[hlen]at hlen';have hhold:HoldsK enc k w b 0 l.toArray:=by
   intro j hj;simp only[size_flatK,List.size_toArray]at hj;have hv:j<(l.flatMap enc).length:=by omega
   have hg:(flatK enc k l.toArray)[j]! =(l.flatMap enc)[j]:=by
    have:(flatK enc k l.toArray)[j]? =some ((l.flatMap enc)[j]):=(by rw[<-Array.getElem?_toList,nC C l];exact List.getElem?_eq_getElem hv);simp[getElem!_def,this]
   have hjc:j<cur.size:=(by omega);refine⟨?_,?_⟩
   ·rw[cell_of_row w b _ cur e (0,0) hblk,hg];have:=(hpo j _ cur[j] (List.getElem?_eq_getElem (by omega)) (Array.getElem?_eq_getElem hjc)).2;have:=((nD C l j _ _ (List.getElem?_eq_getElem (by omega)) (List.getElem?_eq_getElem hv)) _ _ _).1 this;simp only[Nat.zero_add,id];rw[Array.getElem?_eq_getElem hjc,this]
   ·simp[World.frozen?,hblk]
  have hlb:b<w.heap.size:=(Array.getElem?_eq_some_iff.1 hblk).1;have hglob:∀q os dk,zM (sortWorldK enc k w b 0 q dk os) λ_=>False:=λq os dk=>by
   have hsz:(putRowK enc k (Sort.ahead w q) b 0 dk).heap.size=w.heap.size:=by unfold putRowK;simp
   refine m.globL.step (λj hj hn=>?_) (by unfold sortWorldK;simp[hsz]) λ_ _ h=>h.elim;have hjb:j≠b:=λh=>hn (.inr ⟨0,by rw[hH];rfl,by rw[h];exact hb⟩);unfold sortWorldK;rw[heap_grow_old _ _ (by rw[hsz];exact hj)];unfold putRowK putRow mapBlock;simp only[heap_ahead,Array.getElem?_modify,Ne.symm hjb,if_false]
  have hlays:CmpLays P g #[] enc k cf b 0 l.toArray.size w:=λq os dk _ x y=>by
   refine((hcmp x y).2 (sortWorldK enc k w b 0 q dk os) (λ_=>False) [.agg (enc x).toArray,.agg (enc y).toArray] ⟨λ_ h=>h.elim,hglob q os dk⟩ ⟨rfl,λi c v hc hv=>?_⟩).mono ?_
   ·match i,hc,hv with
    |0,hc,hv=>simp at hc hv;subst hc;subst hv;exact(hagg x _ _ _).2 rfl
    |1,hc,hv=>simp at hc hv;subst hc;subst hv;exact(hagg y _ _ _).2 rfl
   ·rintro e w' ⟨v,rfl,hbel,hret⟩;refine⟨?_,Lv hbel⟩;obtain⟨B,hB⟩:=hret;cases hB;rfl
  have hcon:=AnyQ.slices_SortFunc_total L k aE zE enc C.len C.one cf hO g #[] b 0 c l.toArray w eg hlays hhold hlb (by simp;omega) hT;simp only[List.size_toArray]at hcon;rw[show #[Value.slice (some ⟨b,0,none⟩) l.length c,.func (.func g) #[] #[]]=[Value.slice (some ⟨b,0*k,none⟩) l.length c,.func (.func g) #[] #[]].toArray by rw[Nat.zero_mul]]at hcon;refine hcon.mono ?_;rintro ee w' ⟨rfl,n,os,rfl⟩;generalize hs:(l.mergeSort λx y=> !(ltOf cf) y x)=s;have hsl:s.length=l.length:=by rw[<-hs];exact List.length_mergeSort _
  have hsf:(s.flatMap enc).length=l.length*k:=by rw[<-nC C s];simp[hsl]
  have hput:(putRowK enc k (Sort.ahead w n) b 0 s.toArray).heap[b]? =some (.cells (aQ 0 cur.toList (s.flatMap enc)).toArray e (0,0)):=by
   have h1:(putRowK enc k (Sort.ahead w n) b 0 s.toArray).heap[b]? =some (.cells (putCells id 0 (flatK enc k s.toArray) cur) e (0,0)):=by
    unfold putRowK putRow mapBlock;simp only[heap_ahead,Array.getElem?_modify,if_pos,hblk,Option.map_some];rfl
   rw[h1];congr 2;apply Array.ext_getElem?;intro i;rw[show(aQ 0 cur.toList (s.flatMap enc)).toArray[i]? =(aQ 0 cur.toList (s.flatMap enc))[i]? from by simp,eT (by rw[Nat.zero_add,hsf];simpa using hlen')];simp only[putCells,Array.getElem?_mapIdx,Nat.not_lt_zero,if_false,Nat.zero_add,size_flatK,List.size_toArray,hsl,hsf,Nat.sub_zero,Nat.zero_le,true_and];by_cases hi:i<l.length*k
   ·have hic:i<cur.size:=(by omega);simp only[hi,if_true,Array.getElem?_eq_getElem hic,Option.map_some,id];have hv:i<(s.flatMap enc).length:=by omega
    have:(flatK enc k s.toArray)[i]? =some ((s.flatMap enc)[i]):=(by rw[<-Array.getElem?_toList,nC C s];exact List.getElem?_eq_getElem hv);rw[List.getElem?_eq_getElem hv];simp[getElem!_def,this]
   ·simp only[hi,if_false];rw[Array.getElem?_toList];cases cur[i]? <;>rfl
  have hother:∀j,j≠b->(putRowK enc k (Sort.ahead w n) b 0 s.toArray).heap[j]? =w.heap[j]? :=λj hj=>by
   unfold putRowK putRow mapBlock;simp only[heap_ahead,Array.getElem?_modify,Ne.symm hj,if_false]
  have hsize:(putRowK enc k (Sort.ahead w n) b 0 s.toArray).heap.size=w.heap.size:=by unfold putRowK;simp
  have hpl:(aQ 0 cur.toList (s.flatMap enc)).toArray.size=cur.size:=by rw[List.size_toArray,dI (by rw[Nat.zero_add,hsf];simpa using hlen')];simp
  obtain⟨m1,g1⟩:=m.rewriteG (id:=0) (b:=b) (o':=.row false k (s.map d)) (w':=putRowK enc k (Sort.ahead w n) b 0 s.toArray) (by rw[hH];rfl) hb rfl rfl rfl (Nat.le_add_right _ _) hsize hother (by
   unfold bL;rw[hH,aM];refine .inr ⟨⟨false,s.map d,rfl,by simp[hsl]⟩,rfl,λb' c' t hbb hblk'=>?_⟩;rw[hb]at hbb;injection hbb with hbb;subst hbb
   rw[hblk]at hblk';injection hblk' with hblk';injection hblk' with q1 q2;subst q1;subst q2
   exact⟨_,e,hput,hpl⟩) (λhD _=>by
   unfold cP;rw[aM];refine⟨hpos,λx hx=>by obtain⟨y,_,rfl⟩:=List.mem_map.1 hx;exact C.lenD y,.inr ⟨b,e,_,hb,hput,by rw[hpl];simpa [hsl]using hlen',λi dd v hd hv=>?_⟩⟩;have hfs:(bB (s.map d)).length=l.length*k:=by rw[flat_len (size:=k) (λx hx=>by obtain⟨y,_,rfl⟩:=List.mem_map.1 hx;exact C.lenD y)];simp[hsl]
   have hi:i<l.length*k:=by have:=(List.getElem?_eq_some_iff.1 hd).1;omega
   rw[List.getElem?_toArray,eT (by rw[Nat.zero_add,hsf];simpa using hlen'),if_neg (by omega),if_pos (by omega),Nat.sub_zero]at hv;refine⟨?_,((nD C s i dd v hd hv) _ _ _).2 rfl⟩;obtain⟨x,_,hx⟩:=List.mem_flatMap.1 (List.mem_of_getElem? hv);exact C.one x v hx)
  obtain⟨m2,g2⟩:=m1.grow (w':=sortWorldK enc k w b 0 n s.toArray os) ⟨rfl,rfl,rfl,by unfold sortWorldK;simp,λj hj=>heap_grow_old _ _ hj,Nat.le_refl _⟩;refine⟨_,β,rfl,?_,.tup [] [] rfl (by simp)⟩;rw[hfin];exact m2
 ·have hl0:l=[]:=List.eq_nil_of_length_eq_zero hz;subst hl0;refine(AnyF.slices_SortFunc_none (P:=P) (ρ:=ρ) {L with} p 0 (.func (.func g) #[] #[]) w).mono ?_;rintro e w' ⟨rfl,rfl⟩;refine⟨_,β,rfl,?_,.tup [] [] rfl (by simp)⟩;rw[hfin];simp only[List.mergeSort_nil];rw[qA hH];exact m
end
end
section
open Go.RowKit
def Ny{β:Type}(B:Nat)(J:β->World->Prop):Prop:=
 ∀s W W' row,J s W->W.grownBy W' row->W.drawn<=W'.drawn->(∀r,row=some r->B<=r/\∃o:Obj,W.heap[r]? =some o/\o.isCells=false)->J s W'
theorem Ny.putObj{β:Type}{B:Nat}{J:β->World->Prop}(h:Ny B J){s:β}{W:World}{l:Nat}{o:Obj}(o':Obj)(hs:J s W)(hB:B<=l)(hl:W.heap[l]? =some o)(ho:o.isCells=false):J s (W.putObj l o'):=
 h s W _ (some l) hs (grownBy_putObj' W l o') (Nat.le_refl _) (λr e=>by cases e;exact⟨hB,o,hl,ho⟩)
theorem Ny.alloc{β:Type}{B:Nat}{J:β->World->Prop}(h:Ny B J){s:β}{W:World}(o:Obj)(hs:J s W):J s (W.alloc o):=
 h s W _ none hs (World.grownBy_alloc W o none) (Nat.le_refl _) (λr e=>by cases e)
def Lw{α:Type}(B:Nat)(I:List α->World->Prop)(xs:List α)(W:World):Exit->Act->World->Prop
 | .normal,_,W'=>KeepsFrom B W W'/\KeepsWalks W W'/\I xs W'
 |_,_,_=>False
theorem lT{F:Fence}{n:Nat}{P:Program}{w:World}{α:Type}{g:Operand}{p:Tmp}{assign body:Code}{Q:Exit->Act->World->Prop}{a:Act}
 (hro:F.round=none)(h1:1<=n){gf:Nat}{lb:Array Value}(hg:a.eval g=.func (.func gf) #[] lb)(hFg:F.fn gf)(eg:∀args w,(callFunc gf args).run P w=.ok (.enter gf args) w)
 {enc:α->Value}{S:List α->Prop}{N:Nat}(I:List α->World->Prop)(hI:Ny w.heap.size I)(h0:I [] w)
 (hseq:∀(l:Nat) (J:List α->World->Prop) (W1:World),I [] W1->w.heap.size<=W1.heap.size->Ny W1.heap.size J->
   (∀pre x W,J pre W->pre.length<N->YieldAt F (n-1-1) P l #[enc x] W λe W'=>e=.returned (.bool true)/\J (pre++[x]) W'/\KeepsWalks W W')->J [] W1->
   CallsIn F (n-1) P gf (#[.func (.yield l) #[] #[]]++lb) W1 λe W'=>(∃v,e=.returned v)/\∃xs,S xs/\J xs W')
 (Ax:α->Act->World->Prop)(hAx:∀x a',Ny w.heap.size (λ(_:Unit) W=>Ax x a' W))
 (hassign:∀(l:Nat) (pre:List α) (x:α) (W:World) (K:Act->World->Prop),I pre W->(∀a' W',W.grownBy W' none->W.drawn<=W'.drawn->Ax x a' W'->K a' W')->
   assign.wpIn (F.inRound l) (n-1-1) P (Exit.then K (λ_ _ _=>False)) {tmps:=a.tmps.setIfInBounds p (enc x),defers:=[]} W)
 (hbody:∀(l:Nat) (pre:List α) (x:α) (a':Act) (W:World),I pre W->Ax x a' W->pre.length<N->body.wpIn (F.inRound l) (n-1-1) P (Lw w.heap.size I (pre++[x]) W) a' W)
 (hdone:∀(D:Nat) (xs:List α) (W:World),w.heap.size<=D->S xs->I xs W->W.heap[D]? =some (.deferred (some []))->Q .normal {a with defers:={target:=.collected D,args:= #[]}::a.defers} W):
 (Code.rangeFunc g #[p] assign body).wpIn F n P Q a w:=by
 refine wpIn_rangeFunc ?_;intro fn hfn;rw[hro];obtain⟨rec,hrec⟩:∃rec:LoopState->Option Code->Loop,rec=λst pe=>{state:=st,pending:=pe,fn,tmps:=a.tmps,params:= #[p],assign,body,defers:=w.heap.size}:=⟨_,rfl⟩;obtain⟨W1,hW1⟩:∃W1,(w.alloc (.deferred (some []))).alloc (.loop (rec .ready none))=W1:=⟨_,rfl⟩;have hL1:W1.heap[w.heap.size+1]? =some (.loop (rec .ready none)):=by
  rw[<-hW1];have:=World.alloc_heap_new (w.alloc (.deferred (some []))) (.loop (rec .ready none));rwa[World.size_alloc]at this
 have hK1:W1.heap[w.heap.size]? =some (.deferred (some [])):=by
  rw[<-hW1];exact(Below.heap_alloc _ _ _ (by simp)).trans (World.alloc_heap_new w _)
 have hI1:I [] W1:=by rw[<-hW1];exact hI.alloc _ (hI.alloc _ h0)
 have hs1:W1.heap.size=w.heap.size+2:=by rw[<-hW1];simp
 refine⟨w.heap.size+1,[{target:=.collected w.heap.size,args:= #[]}],W1,{target:=.fn (.func gf) lb,args:= #[.func (.yield (w.heap.size+1)) #[] #[]]},W1,gf,
  #[.func (.yield (w.heap.size+1)) #[] #[]]++lb,W1,?_,?_,?_,?_,λ_=>h1,?_⟩
 ·rw[<-hW1,hrec];exact run_enterLoop_outer _ _ _ _ _
 ·simp only[resolve,hg];simp[go_sem]
 ·intro f' hf';simp[Target.leads]at hf';subst hf';exact hFg
 ·simp[invoke,go_sem,eg]
 ·have keep:∀{A B:World} {row:Option Nat} {k:Nat} {o:Obj},A.grownBy B row->(∀r,row=some r->W1.heap.size<=r/\∃o:Obj,A.heap[r]? =some o/\o.isCells=false)->k<W1.heap.size->A.heap[k]? =some o->B.heap[k]? =some o:=λ{A B row k o} hg' hr hk ho=>
   (hg'.block k (Array.getElem?_eq_some_iff.1 ho).1 (λe=>by have:=(hr k e.symm).1;omega)).trans ho
  refine(hseq (w.heap.size+1) (λpre W=>I pre W/\W.heap[w.heap.size+1]? =some (.loop (rec .ready none))/\W.heap[w.heap.size]? =some (.deferred (some []))) W1 hI1 (by omega)
   (λs A B row hs hg' hd hr=>⟨hI s A B row hs.1 hg' hd (λr e=>⟨by have:=(hr r e).1;omega,(hr r e).2⟩),keep hg' hr (by omega) hs.2.1,keep hg' hr (by omega) hs.2.2⟩)
   ?_ ⟨hI1,hL1,hK1⟩).mono ?_
  ·rintro pre x W ⟨hi,hl,hk⟩ hlen;have hlt:w.heap.size+1<W.heap.size:=(Array.getElem?_eq_some_iff.1 hl).1;have hy:(Instr.yield (w.heap.size+1) #[enc x]).run P W=.ok (.round (w.heap.size+1) fn (a.tmps.setIfInBounds p (enc x)) assign body) W:=by
    have:=run_yield (P:=P) (args:= #[enc x]) hl (by rw[hrec];simp);rw[hrec]at this;simpa using this
   refine⟨fn,_,assign,body,hy,roundIn_of_wpIn hfn (hassign _ pre x W _ hi ?_)⟩;intro a' Wa hga hda hax;have hla:=(hga.block _ (Array.getElem?_eq_some_iff.1 hl).1 (by simp)).trans hl;have hka:=(hga.block _ (Array.getElem?_eq_some_iff.1 hk).1 (by simp)).trans hk;have hia:I pre Wa:=hI pre W Wa none hi hga hda (λr e=>by cases e);have hwa:KeepsWalks W Wa:=KeepsWalks.of_grownBy hga (λj o e=>by cases e);have hlta:w.heap.size+1<Wa.heap.size:=(Array.getElem?_eq_some_iff.1 hla).1;refine⟨_,run_beginRound hla (by rw[hrec]),?_⟩;have hl2:(Wa.putObj (w.heap.size+1) (.loop {rec .ready none with state:=.busy})).heap[w.heap.size+1]? =some (.loop {rec .ready none with state:=.busy}):=World.putObj_heap_same hlta;have hk2:(Wa.putObj (w.heap.size+1) (.loop {rec .ready none with state:=.busy})).heap[w.heap.size]? =some (.deferred (some [])):=(World.putObj_heap_other (by omega)).trans hka;have hw2:KeepsWalks Wa (Wa.putObj (w.heap.size+1) (.loop {rec .ready none with state:=.busy})):=KeepsWalks.putObj _ hla rfl;refine wpIn_mono (hbody _ pre x a' _ (hI.putObj _ hia (by omega) hla rfl) ((hAx x a').putObj (s:=()) _ hax (by omega) hla rfl) hlen) ?_;rintro e a3 W3 hp;cases e with
   |normal=>
    obtain⟨hk3,hkp3,hi3⟩:=hp;have hl3:=hk3.same _ _ (by omega) hl2 rfl;have hd3:=hk3.same _ _ (Nat.le_refl _) hk2 rfl;have hr:=run_endRound (P:=P) none hl3;refine⟨_,_,hr,rfl,⟨hI.putObj _ hi3 (by omega) hl3 rfl,?_,(World.putObj_heap_other (by omega)).trans hd3⟩,(hwa.trans hw2).trans (hkp3.trans (KeepsWalks.putObj _ hl3 rfl))⟩;have:=World.putObj_heap_same (w:=W3) (o:=.loop (rec .ready none)) (Array.getElem?_eq_some_iff.1 hl3).1;rw[hrec]at this|-;exact this
   |ret=>exact hp.elim
   |exit id=>exact hp.elim
   |goto t=>exact hp.elim
   |panic ch=>exact hp.elim
   |outgrown=>exact hp.elim
  ·rintro e W2 ⟨⟨v,rfl⟩,xs,hS,hi,hl,hk⟩;exact⟨none,_,by have:=run_endLoop (P:=P) hl (by rw[hrec];simp);rw[hrec]at this;exact this,hdone _ xs _ (Nat.le_refl _) hS (hI.putObj _ hi (by omega) hl rfl) ((World.putObj_heap_other (by omega)).trans hk)⟩
structure lU(s:Nat)(b0:Option Nat)(base:Nat)(W:World)(v:Value)(n:Nat)(cells:List Value)(gb:Option Nat):Prop where
 len:cells.length=n*s
 one:∀u∈cells,u.oneCell'=true
 lies:(gb=none/\n=0/\∃a,v=.slice a 0 0)\/∃g cap cur e,gb=some g/\v=.slice (some ⟨g,0,none⟩) n cap/\(b0=some g\/base<=g)/\W.heap[g]? =some (.cells cur e (0,0))/\n<=cap/\cap<=maxLen/\cap*s=cur.size/\cur.toList.take (n*s)=cells
theorem lU.kept{s:Nat}{b0:Option Nat}{base:Nat}{W W':World}{v:Value}{n:Nat}{cells:List Value}{gb row:Option Nat}(h:lU s b0 base W v n cells gb)(hg:W.grownBy W' row)(hr:gb=none\/gb≠row):lU s b0 base W' v n cells gb:=by
 refine⟨h.len,h.one,?_⟩;rcases h.lies with h1|⟨g,cap,cur,e,rfl,h2,h3,h4,h5⟩
 ·exact .inl h1
 ·refine .inr ⟨g,cap,cur,e,rfl,h2,h3,(hg.block g (Array.getElem?_eq_some_iff.1 h4).1 (λe'=>?_)).trans h4,h5⟩;rcases hr with hr|hr
  ·cases hr
  ·exact hr e'
theorem lU.append{P:Program}{t e:TypeId}{i:TypeInfo}{z:Value}{s:Nat}(ty:TypeId)(ht:P.underlying t=some (.slice e))(hi:P.info? e=some i)(hz:i.zero=some z)(hsz:i.size=s)(hzs:z.cells.size=s)(hs:0<s)
 {b0:Option Nat}{base:Nat}{W:World}{v:Value}{n:Nat}{cells:List Value}{gb:Option Nat}(h:lU s b0 base W v n cells gb)(hbase:base<=W.heap.size){ad c:Nat}{news:List Value}(hn:news.length=s)(h1:∀u∈news,u.oneCell'=true)
 (hc:∀(j:Nat) (u:Value),news[j]? =some u->W.cell? ⟨ad,j,none⟩=some u)(hb:(n+1)*i.bytes<=140737488355328)(hm:n+1<=140737488355328):
 ∃v' W' g',(Builtin.append_ #[t,t] ty #[v,.slice (some ⟨ad,0,none⟩) 1 c]).run P W=.ok v' W'/\lU s b0 base W' v' (n+1) (cells++news) (some g')/\W.grownBy W' gb/\W.drawn<=W'.drawn/\(gb=some g'\/g'=W.heap.size)/\
  ((g'=W.heap.size/\W.grownBy W' none)\/(gb=some g'/\∀cur e,W.heap[g']? =some (.cells cur e (0,0))->∃cur',W'.heap[g']? =some (.cells cur' e (0,0))/\cur'.size=cur.size/\cur'.toList.take (n*s)=cur.toList.take (n*s))):=by
 have hlen:(cells++news).length=(n+1)*s:=by rw[List.length_append,h.len,hn,Nat.add_mul];omega
 have hone:∀u∈cells++news,u.oneCell'=true:=λu hu=>(List.mem_append.1 hu).elim (h.one u) (h1 u);have hlo:(Builtin.lenOf (.slice (some ⟨ad,0,none⟩) 1 c)).run P W=.ok 1 W:=by simp[Builtin.lenOf]
 have hf:∀w2:World,w2.heap=W.heap->(Builtin.firstCells i.size 1 (.slice (some ⟨ad,0,none⟩) 1 c)).run P w2=.ok news.toArray w2:=λw2 hw=>
  gW (by rw[hsz];omega) λj u hu=>by rw[pD hw];simpa using hc j u hu
 have hd:∀k,(TypeDesc.slice e)≠ .int k:=λk=>by simp
 have out:∀{ba:Option Addr} {cap:Nat} (olds:List Value),olds=cells->(∀w2:World,w2.heap=W.heap->(Builtin.firstCells i.size n (.slice ba n cap)).run P w2=.ok olds.toArray w2)->cap<n+1->
  ∃v' W' g',(Builtin.append_ #[t,t] ty #[.slice ba n cap,.slice (some ⟨ad,0,none⟩) 1 c]).run P W=.ok v' W'/\lU s b0 base W' v' (n+1) (cells++news) (some g')/\W.grownBy W' gb/\W.drawn<=W'.drawn/\(gb=some g'\/g'=W.heap.size)/\
  ((g'=W.heap.size/\W.grownBy W' none)\/(gb=some g'/\∀cur e,W.heap[g']? =some (.cells cur e (0,0))->∃cur',W'.heap[g']? =some (.cells cur' e (0,0))/\cur'.size=cur.size/\cur'.toList.take (n*s)=cur.toList.take (n*s))):=by
  intro ba cap olds ho hol hcap;subst ho;have hrun:=gX (P:=P) (w:=W) (ty:=ty) (base:=ba) (sLen:=n) (sCap:=cap) ht ht hd hi hz hlo hf hol hcap (by omega) hb;have hge:=grownCap_ge W (n+1) cap e;have hgc:(olds.toArray++news.toArray++Builtin.zeroCells z.cells (grownCap W (n+1) cap e-(n+1))).size=grownCap W (n+1) cap e*s:=by
   simp only[Array.size_append,List.size_toArray,size_zeroCells,hzs,h.len,hn];have:(n+1+(grownCap W (n+1) cap e-(n+1)))*s=n*s+s+(grownCap W (n+1) cap e-(n+1))*s:=by rw[Nat.add_mul,Nat.add_mul];omega
   rw[<-this];congr 1;omega
  refine⟨_,_,_,hrun,⟨hlen,hone,.inr ⟨_,_,_,e,rfl,rfl,.inr hbase,heap_alloc_new W.drew _,hge,grownCap_le_maxLen W (n+1) cap e (by unfold maxLen;omega),hgc.symm,?_⟩⟩,⟨rfl,rfl,rfl,by simp,λk hk _=>heap_alloc_old W.drew _ hk⟩,Nat.le_succ _,.inr rfl,.inl ⟨rfl,⟨rfl,rfl,rfl,by simp,λk hk _=>heap_alloc_old W.drew _ hk⟩⟩⟩;rw[<-hlen];simp only[Array.toList_append,List.append_assoc];rw[<-List.append_assoc,List.take_left]
 rcases h.lies with⟨rfl,rfl,a,rfl⟩|⟨g,cap,cur,e',rfl,rfl,hbg,hblk,hnc,hcm,hcs,htk⟩
 ·have hc0:cells=[]:=List.eq_nil_of_length_eq_zero (by simpa using h.len);refine out [] hc0.symm (λw2 _=>by cases a<;>simp[Builtin.firstCells,loadCells,loadCellsFrom]) (by omega)
 ·by_cases hroom:n+1<=cap
  ·have hfit:n*s+news.length<=cur.size:=by
    rw[hn,<-hcs];have:(n+1)*s<=cap*s:=Nat.mul_le_mul_right _ hroom;rw[Nat.add_mul]at this;omega
   have hrun:=eN (P:=P) (w:=W) (ty:=ty) (base:=some ⟨g,0,none⟩) (sLen:=n) (sCap:=cap) ht ht hd hi hlo hf hroom;have hst:=run_storeCells_at P g (n*s) e' news 0 cur W hblk (by omega) h1;simp only[Nat.add_zero]at hst;simp only[Addr.add_lit,Nat.zero_add,hsz]at hrun;rw[hst]at hrun;have hcl:cur.toList.length=cur.size:=by simp
   refine⟨_,_,g,hrun,⟨hlen,hone,.inr ⟨g,cap,_,e',rfl,rfl,hbg,setRow_heap W g cur _ e' (0,0) hblk,hroom,hcm,?_,?_⟩⟩,⟨rfl,rfl,rfl,by simp,λk _ hk=>setRow_other W g k _ (λe=>hk (by rw[e]))⟩,Nat.le_refl _,.inl rfl,.inr ⟨rfl,λcur2 e2 hc2=>?_⟩⟩
   ·rw[hcs];simp only[List.size_toArray,List.length_append,List.length_take,List.length_drop,hcl];omega
   ·simp only[htk];rw[List.append_assoc,<-List.append_assoc,<-hlen,List.take_left]
   ·rw[hblk]at hc2;injection hc2 with hc2;injection hc2 with p1 p2;subst p1;subst p2
    refine⟨_,setRow_heap W g cur _ e' (0,0) hblk,?_,?_⟩
    ·simp only[List.size_toArray,List.length_append,List.length_take,List.length_drop,hcl];omega
    ·simp only[htk];rw[List.append_assoc,<-h.len,List.take_left]
  ·refine out (cur.toList.take (n*s)) htk (λw2 hw=>?_) (by omega);refine gW (by rw[hsz,List.length_take,Array.length_toList,<-hcs];have:n*s<=cap*s:=Nat.mul_le_mul_right _ hnc;omega) λj u hu=>?_;rw[pD hw,cell_of_row W g _ cur e' (0,0) hblk];rw[List.getElem?_take]at hu;split at hu
   ·simpa using hu
   ·cases hu
theorem mC{F:Fence}{nF:Nat}{P:Program}(W:World){ops:Array Oper}{rest:List Oper}{o:Oper}{a:Act}{Q:Exit->Act->World->Prop}(hg:o.guard=none)(sl x:Operand)(t:TypeId)(ho:o.op=.call {callee:=.builtin .append,args:= #[sl,x],argTypes:= #[t,t]})
 {e:TypeId}{i:TypeInfo}{z:Value}{s:Nat}(ht:P.underlying t=some (.slice e))(hi:P.info? e=some i)(hz:i.zero=some z)(hsz:i.size=s)(hzs:z.cells.size=s)(hs:0<s)
 {b0:Option Nat}{base:Nat}{v:Value}{n:Nat}{cells:List Value}{gb:Option Nat}(hv:a.eval sl=v)(h:lU s b0 base W v n cells gb)(hbase:base<=W.heap.size){ad c:Nat}{news:List Value}(hx:a.eval x=.slice (some ⟨ad,0,none⟩) 1 c)(hn:news.length=s)(h1:∀u∈news,u.oneCell'=true)
 (hc:∀(j:Nat) (u:Value),news[j]? =some u->W.cell? ⟨ad,j,none⟩=some u)(hb:(n+1)*i.bytes<=140737488355328)(hm:n+1<=140737488355328)
 (hK:∀v' W' g',lU s b0 base W' v' (n+1) (cells++news) (some g')->W.grownBy W' gb->W.drawn<=W'.drawn->(gb=some g'\/g'=W.heap.size)->
   ((g'=W.heap.size/\W.grownBy W' none)\/(gb=some g'/\∀cur e,W.heap[g']? =some (.cells cur e (0,0))->∃cur',W'.heap[g']? =some (.cells cur' e (0,0))/\cur'.size=cur.size/\cur'.toList.take (n*s)=cur.toList.take (n*s)))->wpListIn F nF P ops Q rest (a.put o.dst v') W'):wpListIn F nF P ops Q (o::rest) a W:=by
 refine wpListIn_plain hg λK hK'=>?_;obtain⟨v',W',g',hr,h2,h3,h4,h5,h6⟩:=h.append o.type ht hi hz hsz hzs hs hbase hn h1 hc hb hm;unfold Oper.wpIn;refine⟨by simp[Oper.about,ho,resolve,Target.leads,Sem.run_pure],?_⟩;rw[Oper.semAt_plain F _ _ (by rw[ho];intro c hc';cases hc')];simp[execOp,ho,resolve,invoke,builtin,hv,hx,Result.andThen];rw[hr];exact hK' _ _ (hK v' W' g' h2 h3 h4 h5 h6)
structure zB(b0:Option Nat)(W0 W:World):Prop where
 os:W.os=W0.os
 tape:W.tape=W0.tape
 output:W.output=W0.output
 size:W0.heap.size<=W.heap.size
 block:∀k,k<W0.heap.size->some k≠b0->W.heap[k]? =W0.heap[k]?
 drawn:W0.drawn<=W.drawn
theorem zB.refl(b0:Option Nat)(W:World):zB b0 W W:=⟨rfl,rfl,rfl,Nat.le_refl _,λ_ _ _=>rfl,Nat.le_refl _⟩
theorem zB.step{b0:Option Nat}{W0 W W':World}{row:Option Nat}(h:zB b0 W0 W)(hg:W.grownBy W' row)(hd:W.drawn<=W'.drawn)(hr:∀r,row=some r->b0=some r\/W0.heap.size<=r):zB b0 W0 W':=
 ⟨hg.os.trans h.os,hg.tape.trans h.tape,hg.output.trans h.output,Nat.le_trans h.size hg.size,λk hk hb=>(hg.block k (Nat.lt_of_lt_of_le hk h.size) (λe=>by rcases hr k e.symm with q|q;exact hb q.symm;omega)).trans (h.block k hk hb),Nat.le_trans h.drawn hd⟩
def uH(m:Nat)(b0:Option Nat)(W0 W:World):Prop:=∀g cur0 e0,b0=some g->W0.heap[g]? =some (.cells cur0 e0 (0,0))->∃cur,W.heap[g]? =some (.cells cur e0 (0,0))/\cur.size=cur0.size/\cur.toList.take m=cur0.toList.take m
theorem uH.refl(m:Nat)(b0:Option Nat)(W:World):uH m b0 W W:=λ_ cur0 _ _ h=>⟨cur0,h,rfl,rfl⟩
theorem uH.step{m:Nat}{b0:Option Nat}{W0 W W':World}{row:Option Nat}(h:uH m b0 W0 W)(hg:W.grownBy W' row)(hr:b0=none\/b0≠row):uH m b0 W0 W':=λg cur0 e0 hb h0=>by
 obtain⟨cur,h1,h2,h3⟩:=h g cur0 e0 hb h0;refine⟨cur,(hg.block g (Array.getElem?_eq_some_iff.1 h1).1 (λe=>?_)).trans h1,h2,h3⟩;rcases hr with hr|hr
 ·rw[hr]at hb;cases hb
 ·exact hr (hb.trans e)
theorem uH.write{m n:Nat}{b0 gb:Option Nat}{W0 W W':World}{g':Nat}(h:uH m b0 W0 W)(hn:m<=n)(hg:W.grownBy W' gb)
 (hw:(g'=W.heap.size/\W.grownBy W' none)\/(gb=some g'/\∀cur e,W.heap[g']? =some (.cells cur e (0,0))->∃cur',W'.heap[g']? =some (.cells cur' e (0,0))/\cur'.size=cur.size/\cur'.toList.take n=cur.toList.take n)):uH m b0 W0 W':=by
 rcases hw with⟨_,hg'⟩|⟨hgb,hw⟩
 ·exact h.step hg' (by cases b0<;>simp)
 ·by_cases e:b0=gb
  ·intro g cur0 e0 hb h0;rw[e,hgb]at hb;injection hb with hb;subst hb
   obtain⟨cur,h1,h2,h3⟩:=h g' cur0 e0 (e.trans hgb) h0;obtain⟨cur',q1,q2,q3⟩:=hw cur e0 h1;refine⟨cur',q1,q2.trans h2,?_⟩;have:=congrArg (List.take m) q3;rw[List.take_take,List.take_take,Nat.min_eq_left hn]at this;exact this.trans h3
  ·exact h.step hg (.inr e)
section
variable{w0:cX} {X:Nat->Prop} {H:Nat->aV} {β:Nat->Option Nat} {w w':World} {α:Type} [Inhabited α] {k:Nat} {d:α->DV} {enc:α->List Value}
theorem sG.flat_len(C:sG k d enc)(l:List α):(l.flatMap enc).length=l.length*k:=by rw[<-nC C l];simp
theorem sG.flatD_len{α:Type}{k:Nat}{d:α->DV}{enc:α->List Value}(C:sG k d enc)(l:List α):(bB (l.map d)).length=l.length*k:=by
 rw[Go.Eng.flat_len (size:=k) (λx hx=>by obtain⟨y,_,rfl⟩:=List.mem_map.1 hx;exact C.lenD y)];simp
theorem sG.all{α:Type}{k:Nat}{d:α->DV}{enc:α->List Value}(C:sG k d enc)(l:List α):∀x∈l.map d,(aK x).length=k:=λx hx=>by obtain⟨y,_,rfl⟩:=List.mem_map.1 hx;exact C.lenD y
theorem sG.reads(C:sG k d enc){l:List α}{cur:Array Value}(h:cur.toList.take (l.length*k)=l.flatMap enc):l.length*k<=cur.size/\∀(E:Nat->Prop) (W:World) (i:Nat) (c:DV) (v:Value),(bB (l.map d))[i]? =some c->cur[i]? =some v->v.oneCell'=true/\RD W E c v:=by
 have hl:=congrArg List.length h;rw[List.length_take,C.flat_len]at hl;have hcl:cur.toList.length=cur.size:=by simp
 refine⟨by omega,λE W i c v hc hv=>?_⟩;have hi:i<l.length*k:=by have:=(List.getElem?_eq_some_iff.1 hc).1;rw[C.flatD_len]at this;exact this
 have hv':(l.flatMap enc)[i]? =some v:=by rw[<-h,List.getElem?_take,if_pos hi];simpa using hv
 refine⟨?_,(nD C l i c v hc hv' _ _ _).2 rfl⟩;obtain⟨x,_,hx⟩:=List.mem_flatMap.1 (List.mem_of_getElem? hv');exact C.one x v hx
theorem sG.holds(C:sG k d enc){l:List α}{cur:Array Value}(hn:l.length*k<=cur.size){E:Nat->Prop}{W:World}(h:∀(i:Nat) (c:DV) (v:Value),(bB (l.map d))[i]? =some c->cur[i]? =some v->RD W E c v):cur.toList.take (l.length*k)=l.flatMap enc:=by
 apply List.ext_getElem?;intro i;rw[List.getElem?_take];by_cases hi:i<l.length*k
 ·rw[if_pos hi];have h1:i<cur.size:=by omega
  have h2:i<(l.flatMap enc).length:=by rw[C.flat_len];exact hi
  have h3:i<(bB (l.map d)).length:=by rw[C.flatD_len];exact hi
  have:=(nD C l i _ _ (List.getElem?_eq_getElem h3) (List.getElem?_eq_getElem h2) W E _).1 (h i _ _ (List.getElem?_eq_getElem h3) (Array.getElem?_eq_getElem h1));rw[List.getElem?_eq_getElem h2,<-this];simp[h1]
 ·rw[if_neg hi,List.getElem?_eq_none (by rw[C.flat_len];omega)]
theorem Nz(f:Nat->aV)(i:Nat)(x y:aV):bU (bU f i x) i y=bU f i y:=by funext j;simp only[bU];split<;>rfl
theorem cV.appended(C:sG k d enc)(m:cV w0 X H β w){id new:Nat}{l p:List α}{b0 gb:Option Nat}{v:Value}(hH:H id=.row false k (l.map d))(hnew:H new=.absent)(hb0:(b0=none/\l=[])\/(∃b,b0=some b/\β id=some b/\∃cur e,w.heap[b]? =some (.cells cur e (0,0))/\cur.toList.take (l.length*k)=l.flatMap enc))
 (hr:lU k b0 w.heap.size w' v (l.length+p.length) ((l++p).flatMap enc) gb)(hs:zB b0 w w')(hh:uH (l.length*k) b0 w w'):
 ∃β',cV w0 X (bU (bU H id .dead) new (.row false k ((l++p).map d))) β' w'/\R w' (Ex X β' (bU (bU H id .dead) new (.row false k ((l++p).map d)))) β' (bU (bU H id .dead) new (.row false k ((l++p).map d))) (.ow new 0 (l.length+p.length)) v:=by
 have hne:id≠new:=λe=>by rw[e,hnew]at hH;cases hH
 have hlive:(H id).live=true:=by rw[hH];rfl
 have hmut:(H id).mut=true:=by rw[hH];rfl
 have hn':(l++p).length=l.length+p.length:=by simp
 obtain⟨wm,hwm⟩:∃wm:World,wm={w with heap:=w'.heap.extract 0 w.heap.size}:=⟨_,rfl⟩;have hms:wm.heap.size=w.heap.size:=by rw[hwm];simp[hs.size]
 have hmk:∀j,j<w.heap.size->wm.heap[j]? =w'.heap[j]? :=λj hj=>by
  rw[hwm];simp only[Array.getElem?_extract];have:=hs.size;rw[if_pos (by omega)];congr 1;omega
 have hbel:BP wm.heap.size wm w':=by
  refine⟨?_,?_,?_,by rw[hms];exact hs.size,λj hj=>(hmk j (by omega)).symm,?_⟩<;>rw[hwm]
  ·exact hs.os
  ·exact hs.tape
  ·exact hs.output
  ·exact hs.drawn
 have hm1:cV w0 X H β wm:=by
  rcases hb0 with⟨rfl,_⟩|⟨b,rfl,hb,cur,e,hblk,htk⟩
  ·have e:wm=w:=by
    have:w'.heap.extract 0 w.heap.size=w.heap:=by
     apply Array.ext_getElem?;intro j;by_cases hj:j<w.heap.size
     ·have h1:=hmk j hj;rw[hwm]at h1;exact h1.trans (hs.block j hj (by simp))
     ·have:=hs.size;rw[Array.getElem?_extract,if_neg (by omega),Array.getElem?_eq_none (by omega)]
    rw[hwm,this]
   rw[e];exact m
  ·obtain⟨cur',q1,q2,q3⟩:=hh b cur e rfl hblk;have hbl:=(Array.getElem?_eq_some_iff.1 hblk).1;have hwb:wm.heap[b]? =some (.cells cur' e (0,0)):=(hmk b hbl).trans q1;have:=m.rewriteG (id:=id) (b:=b) (o':=.row false k (l.map d)) (w':=wm) hmut hb (by rw[hwm]) (by rw[hwm]) (by rw[hwm]) (by rw[hwm];exact Nat.le_refl _) hms (λj hj=>by
    by_cases hjl:j<w.heap.size
    ·rw[hmk j hjl];exact hs.block j hjl (λe=>hj (by injection e))
    ·rw[Array.getElem?_eq_none (by omega),Array.getElem?_eq_none (by omega)]) (by
    unfold bL;rw[hH,aM];refine .inr ⟨⟨false,_,rfl,Nat.le_refl _⟩,rfl,λb' c' t hbb hblk'=>?_⟩;rw[hb]at hbb;injection hbb with hbb;subst hbb
    rw[hblk]at hblk';injection hblk' with hblk';injection hblk' with p1 p2;subst p1;subst p2
    exact⟨cur',e,hwb,q2⟩) (λ_ _=>by
    unfold cP;rw[aM];obtain⟨r1,r2⟩:=C.reads (q3.trans htk);exact⟨C.pos,C.all l,.inr ⟨b,e,cur',hb,hwb,by simpa using r1,r2 _ _⟩⟩)
   rw[qA hH]at this;exact this.1
 rcases hr.lies with⟨rfl,hz,a,rfl⟩|⟨g,cap,cur,e,rfl,rfl,hbg,hblk,hnc,hcm,hcs,htk⟩
 ·have hl0:l=[]:=List.eq_nil_of_length_eq_zero (by omega);have hp0:p=[]:=List.eq_nil_of_length_eq_zero (by omega);subst hl0;subst hp0;obtain⟨m2,_⟩:=hm1.kill id hlive;obtain⟨m3,_⟩:=m2.grow hbel;obtain⟨m4,_⟩:=nA m3 (d:=new) (by rw[bS _ _ (Ne.symm hne)];exact hnew) C.pos;exact⟨_,m4,.ow0 new 0 a false k [] (by rw[aM];rfl) (.inl ⟨by rw[aM],rfl⟩)⟩
 ·rw[<-hn']at htk;obtain⟨r1,r2⟩:=C.reads htk;have hbr:∀(β':Nat->Option Nat) (H':Nat->aV),H' new=.row false k ((l++p).map d)->β' new=some g->R w' (Ex X β' H') β' H' (.ow new 0 (l.length+p.length)) (.slice (some ⟨g,0,none⟩) (l.length+p.length) cap):=λβ' H' h1 h2=>by
   have hR:=R.ow (w:=w') (E:=Ex X β' H') (β:=β') (H:=H') new 0 (l.length+p.length) g cap false k ((l++p).map d) cur e h1 h2 (by simp) hnc hcm hblk (by rw[Nat.zero_add];exact hcs);rw[Nat.zero_mul]at hR;exact hR
  by_cases hgl:g<w.heap.size
  ·have hbg':b0=some g:=hbg.resolve_right (by omega);have hβ:β id=some g:=by
    rcases hb0 with⟨h,_⟩|⟨b,h,hb,_⟩
    ·rw[h]at hbg';cases hbg'
    ·rw[h]at hbg';injection hbg' with hbg';rw[<-hbg'];exact hb
   obtain⟨m2,_⟩:=hm1.grow hbel;obtain⟨m3,_⟩:=m2.moveObj (id:=id) (d:=new) l.length hH hnew;have:=m3.rewriteG (id:=new) (b:=g) (o':=.row false k ((l++p).map d)) (w':=w') (by rw[aM];rfl) (by rw[aM];exact hβ) rfl rfl rfl (Nat.le_refl _) rfl (λ_ _=>rfl) (by
    unfold bL;rw[aM,aM];exact .inr ⟨⟨false,_,rfl,by simp⟩,rfl,λb' c' t _ hblk'=>⟨c',t,hblk',rfl⟩⟩) (λ_ _=>by
    unfold cP;rw[aM];exact⟨C.pos,C.all _,.inr ⟨g,e,cur,by rw[aM];exact hβ,hblk,by simpa using r1,r2 _ _⟩⟩)
   rw[Nz]at this;exact⟨_,this.1,hbr _ _ (by rw[aM]) (by rw[aM];exact hβ)⟩
  ·obtain⟨m2,_⟩:=hm1.kill id hlive;have hgs:=(Array.getElem?_eq_some_iff.1 hblk).1;have:=m2.newObj hbel (d:=new) (by rw[bS _ _ (Ne.symm hne)];exact hnew) (o:=.row false k ((l++p).map d)) (some g) (λb hb=>by injection hb with hb;subst hb;exact⟨by omega,hgs⟩) (λ_ _=>by
    unfold cP;rw[aM];exact⟨C.pos,C.all _,.inr ⟨g,e,cur,by rw[aM],hblk,by simpa using r1,r2 _ _⟩⟩)
   exact⟨_,this.1,hbr _ _ (by rw[aM]) (by rw[aM])⟩
end
end
section
open Go.RowKit
section
variable{P:Program} {N:Nat} {w0:cX} {X:Nat->Prop} {Q:LX->fJ->dU->Prop} {env:fJ} {H:dU}
theorem qL{c:Code}(b j id s:Nat){fz:Bool}{cs:List LV}(hs:0<s)(h:H b=.box fz cs/\cs[j]? =some .nl/\H id=.absent/\eG P N w0 X c Q env (bU (bU H id (.row false s [])) b (.box fz (cs.set j (.ow id 0 0))))):eG P N w0 X c Q env H:=by
 obtain⟨hb,hj,hid,h⟩:=h;have hne:b≠id:=λe=>by rw[e,hid]at hb;cases hb
 intro r hr β a w sm;obtain⟨m1,g1⟩:=nA sm.mem hid hs;obtain⟨m2,g2⟩:=m1.rebox (b:=b) (fz:=fz) (cs:=cs) (cs':=cs.set j (.ow id 0 0)) (by rw[bS _ _ hne];exact hb) (by simp) λi c c' v hc hc' hr=>by
  rw[List.getElem?_set]at hc';by_cases e:j=i
  ·subst e;rw[hj]at hc;injection hc with hc;subst hc
   have hl:=(List.getElem?_eq_some_iff.1 hj).1;simp[hl]at hc';subst hc';cases hr with|nl p=>exact .ow0 id 0 p false s [] (by rw[aM]) (.inl ⟨by rw[aM],rfl⟩)
  ·simp only[e,if_false]at hc';rw[hc]at hc';injection hc' with hc';subst hc'
   exact hr
 exact h r hr _ a w ⟨g2.marks (g1.marks sm.defers),sm.size,m2.ext,m2.xold,m2.fresh,m2.inj,λt=>g2.R (g1.R (sm.env t)),m2.obj,m2.pin⟩
end
end
section
open Go.RowKit
section
variable{P:Program}
theorem NA{f:FuncId}{fn:Func}{c:Code}{args:List DV}{x y:DV}{fresh:Bool}{n t u:Nat}(hf:P.funcs[f]? =some fn)(hname:(fn.name== "runtime.NumGoroutine")=false)(hb:fn.body=some c)(hn:fn.ntmps=n)(hargs:args.length<=n)(hres:fn.results= #[.tmp t,.tmp u])
 (h:∀w0 X,w0.pins=[]->eG P n w0 X c (HW t u fresh (.d x) y) (iW args) (aL [])):Ok P f args ⟨.tup [.d x,.d y],fresh⟩:=by
 refine qH hf hname hb hn hargs λw0 X hpn=>(h w0 X hpn).mono λx env H ⟨h1,h2,h3⟩=>⟨h1,λβ a w s=>⟨_,results_tmp2 hres _ _ _,?_⟩⟩;obtain⟨B,hB⟩:=qF hpn s (s.env t) h2;obtain⟨B',hB'⟩:=qF hpn s (s.env u) h3;refine⟨[a.tmps.getD t undef,a.tmps.getD u undef],λ_=>none,rfl,rfl,(by intro i j b hi hj;simp at hi),λi r v hr hv=>?_⟩
 match i,hr,hv with
 |0,hr,hv=>
  injection hr with hr;injection hv with hv
  subst hr;subst hv;simp only[zN]at hB|-;exact RD.anti (λk hk=>.inl (by rcases hk with hk|⟨j,hj⟩;exact hk;cases hj)) hB
 |1,hr,hv=>
  injection hr with hr;injection hv with hv
  subst hr;subst hv;simp only[zN]at hB'|-;exact RD.anti (λk hk=>.inl (by rcases hk with hk|⟨j,hj⟩;exact hk;cases hj)) hB'
end
end
section
section
variable{P:Program} {N:Nat} {w0:cX} {X:Nat->Prop} {Q:LX->fJ->dU->Prop} {env:fJ} {H:dU} {c:Code}
theorem eG.label{l:Nat}(h:Q .normal env H):eG P N w0 X (.label l) Q env H:=λ_ _ β _ _ s=>wpIn_label ⟨.normal,env,H,β,trivial,s,h⟩
theorem eG.scope(h:eG P N w0 X c Q env H):eG P N w0 X (.scope c) Q env H:=λr hr β a w s=>by
 obtain⟨hn,hf⟩:=hr.resolve_right (by simp[uA]);subst hn;refine wpIn_wide.2 (wp_scope_straight (wp_mono (wpIn_wide.1 (h none (.inl ⟨rfl,hf⟩) β a w s)) λe a' w' k=>by
 obtain⟨lx,env',H',β',h1,h2,h3⟩:=k;cases e with
 |goto l=>cases lx<;>exact h1.elim
 |_=>exact⟨lx,env',H',β',h1,h2,h3⟩))
end
end
open Go.RowKit
def IsRow(k:IntKind)(w:World)(a:Option Addr)(len cap:Nat)(zs:List Int):Prop:=
 (a=none/\len=0/\cap=0/\zs=[])\/
 ∃x,a=some x/\len<=cap/\cap<=maxLen/\zs.length=cap/\(∀i,i<zs.length->w.cell? (x.add i)=some (.int k (zs.getD i 0)))/\∀n∈zs,(Lit.int k n).wf=true
theorem NB{n:Int}(h:(Lit.int .i64 n).wf=true): -9223372036854775808<=n/\n<=9223372036854775807:=by
 simp only[Lit.wf,Bool.and_eq_true,decide_eq_true_eq,IntKind.min,IntKind.max,IntKind.signed,IntKind.bits]at h;exact⟨h.1,h.2⟩
theorem PV{w:World}{a:Option Addr}{len cap:Nat}{zs:List Int}(h:IsRow .i64 w a len cap zs):∀n∈zs.take len, -9223372036854775808<=n/\n<=9223372036854775807:=λn hn=>by
 have hn:=List.mem_of_mem_take hn;rcases h with⟨_,_,_,rfl⟩|⟨x,_,_,_,_,_,h⟩
 ·cases hn
 ·exact NB (h n hn)
theorem Qg{w:World}{k:IntKind}{a:Option Addr}{len cap:Nat}{zs:List Int}(h:IsRow k w a len cap zs):RD w (λ_=>False) (.sl ((zs.take len).map (.int k))) (.slice a len cap):=by
 rcases h with⟨rfl,rfl,rfl,rfl⟩|⟨x,rfl,h1,h2,h3,h4,h5⟩
 ·exact .sl0 _ 0 (Nat.zero_le _)
 ·by_cases h0:len=0
  ·subst h0;rw[List.take_zero];exact .sl0 _ cap h2
  ·obtain⟨b,o,rfl,hc⟩:=ints_at h4 (by omega);have hl:((zs.take len).map (DV.int k)).length=len:=by simp;omega
   have hfl:bB ((zs.take len).map (DV.int k))=(zs.take len).map (DV.int k):=by
    unfold bB;rw[List.flatMap_map];induction zs.take len with
    |nil=>rfl
    |cons a l ih=>rw[List.flatMap_cons,ih];rfl
   have:=RD.sl (w:=w) (E:=λ_=>False) ((zs.take len).map (.int k)) b o cap 1 ((zs.take len).map (.int k)) (λe=>by rw[e]at hl;simp at hl;omega) (λh=>h) (λx hx=>by obtain⟨n,_,rfl⟩:=List.mem_map.1 hx;rfl)
    (by rw[hl];exact h1) h2 (by simp) (λu hu=>by obtain⟨n,_,rfl⟩:=List.mem_map.1 hu;rfl) (MY (hc 0 (by omega))) (λj u hj=>by
      have hj':j<len:=by
       have:=(List.getElem?_eq_some_iff.1 hj).1;simp at this;omega
      have hz:j<zs.length:=(by omega);have:=hc j hz;rw[this];simp[hj',hz]at hj;simp[hz,hj]) (λi d v hd hv=>by
      rw[hfl]at hd;simp only[List.getElem?_map]at hd hv;cases q:(zs.take len)[i]? with
      |none=>rw[q]at hd;cases hd
      |some n=>rw[q]at hd hv;cases hd;cases hv;exact .int k n)
   rw[hl]at this;exact this
theorem Oj.nil{w:World}{E:Nat->Prop}:Oj w E [] []:=⟨rfl,λi c v h=>by simp at h⟩
theorem Oj.cons{w:World}{E:Nat->Prop}{d:DV}{v:Value}{ds:List DV}{vs:List Value}(h:RD w E d v)(hs:Oj w E ds vs):Oj w E (d::ds) (v::vs):=
 ⟨by simp[hs.1],λi c u hc hu=>by
   cases i with
   |zero=>simp at hc hu;subst hc;subst hu;exact h
   |succ i=>exact hs.2 i c u (by simpa using hc) (by simpa using hu)⟩
theorem Pl{P:Program}{f:FuncId}{args:List DV}{fr:Bool}(h:Ok P f args ⟨.d (.bool true),fr⟩)(w:World)(vs:List Value)(hr:Oj w (λ_=>False) args vs)(hg:zM w (λ_=>False):=by intro n cs h;simp[Go.Eng.globD]at h):
 Calls P f vs.toArray w λe w'=>e=.returned (.bool true)/\Below w.heap.size w w':=
 (h.2 w (λ_=>False) vs ⟨λ_ h=>h.elim,hg⟩ hr).mono λ_ _ ⟨v,h1,h2,h3⟩=>by
   obtain⟨_,h4⟩:=h3;cases h4;exact⟨h1,h2.below⟩
theorem zN.own_d{w w':World}{E E':Nat->Prop}{B:Option Nat}{s:Nat}{xs:List DV}{v:Value}(h:zN w w' E B (.own s xs) v)(hE:∀k,E' k->k<w.heap.size)(hEE:∀k,E' k->E k):RD w' E' (.sl xs) v:=by
 obtain⟨hs,hxs,h⟩:=h;rcases h with⟨_,rfl,a,rfl⟩|⟨b,c,cur,e,_,rfl,hb,hblk,hl,hc,hcs,hcell⟩
 ·exact .sl0 a 0 (Nat.zero_le _)
 ·by_cases hx:xs=[]
  ·subst hx;exact .sl0 _ c hc
  ·have hfl:=flat_len hxs;have hle:xs.length*s<=cur.size:=by rw[<-hcs];exact Nat.mul_le_mul_right _ hl
   have hlt:b<w'.heap.size:=(Array.getElem?_eq_some_iff.1 hblk).1;refine .sl xs b 0 c s (cur.toList.take (xs.length*s)) hx (λq=>by have:=hE b q;omega) hxs hl hc (by simp;omega) (λu hu=>?_) hlt (λj u hj=>?_) (λi d v hd hv=>?_)
   ·obtain⟨j,hj,rfl⟩:=List.getElem_of_mem hu;simp only[List.length_take,Array.length_toList]at hj;have hjc:j<cur.size:=by omega
    have hjf:j<(bB xs).length:=(by rw[hfl];omega);simp only[List.getElem_take,Array.getElem_toList];exact(hcell j _ _ (List.getElem?_eq_getElem hjf) (Array.getElem?_eq_getElem hjc)).1
   ·rw[cell_of_row w' b _ cur e (0,0) hblk,Nat.zero_add];rw[List.getElem?_take]at hj;split at hj
    ·simpa using hj
    ·cases hj
   ·rw[List.getElem?_take]at hv;split at hv
    ·exact((hcell i d v hd (by simpa using hv)).2).anti hEE
    ·cases hv
theorem Ok.own_d{P:Program}{f:FuncId}{args:List DV}{s:Nat}{xs:List DV}{fr:Bool}(h:Ok P f args ⟨.own s xs,fr⟩):Ok P f args ⟨.d (.sl xs),fr⟩:=
 ⟨h.1,λw X vs hX hr=>(h.2 w X vs hX hr).mono λ_ _ ⟨v,h1,h2,B,h3⟩=>
   ⟨v,h1,h2,none,h3.own_d (λk q=>by
     rcases q with(q|⟨_,q⟩)|q
     ·exact hX.1 k q
     ·exact q
     ·cases q) (λk q=>by
     rcases q with q|q
     ·exact .inl q
     ·cases q)⟩⟩
section
open Go.RowKit
section
variable{P:Program} {T:TypeId->eC} {w0:cX} {X:Nat->Prop} {env:fJ} {H:dU}
def Ib(w0:cX)(T:TypeId->eC)(t:Nat)(ty:TypeId)(fin:List (Nat×aV))(ret:LV)(x:LX)(env:fJ)(H:dU):Prop:=
 (match x with| .exit _=>False|_=>True)/\(oI T H ty (env t)).ok/\qD w0 (aU [(0,(oI T H ty (env t)).v)]) H (aU [(0,ret)]) (aL fin)
theorem iB{t:Nat}{ty:TypeId}{fin:List (Nat×aV)}{ret:LV}:Ib w0 T t ty fin ret .ret env H↔(oI T H ty (env t)).ok/\qD w0 (aU [(0,(oI T H ty (env t)).v)]) H (aU [(0,ret)]) (aL fin):=by simp[Ib]
theorem BO.cell(hT:fC P T){f:FuncId}{fn:Func}{c:Code}{args:List LV}{h fin:List (Nat×aV)}{ret:LV}{n t:Nat}{ty:TypeId}(hf:P.funcs[f]? =some fn)(hname:(fn.name== "runtime.NumGoroutine")=false)(hb:fn.body=some c)(hn:fn.ntmps=n)(hargs:args.length<=n)(hres:fn.results= #[.cell t ty])
 (hw:∀w0 X,w0.pins=h.map (·.1)->eG P n w0 X c (Ib w0 T t ty fin ret) (Dv args) (aL h)):BO P f args h fin ret:=
 sF hf hname hb hn hargs λw0 X hp=>(hw w0 X hp).mono λx env H ⟨h1,h2,h3⟩=>⟨h1,λβ a w s=>by
  obtain⟨v,hv,hr⟩:=yZ hT s h2;have s1:oX 1 w0 X (aU [(0,(oI T H ty (env t)).v)]) H β ⟨#[v],[]⟩ w:=by
   refine⟨Ce.nil,rfl,s.ext,s.xold,s.fresh,s.inj,λt'=>?_,s.obj,s.pin⟩;cases t' with
   |zero=>exact hr
   |succ t'=>exact .junk _
  obtain⟨β',s'⟩:=h3 _ _ _ _ _ s1;have e:=s'.env 0;rw[show aU [(0,ret)] 0=ret by simp[aU,nZ]]at e;refine⟨v,β',?_,s'.mem,e⟩;simp only[results,hres];simpa [Sem.run_bind,Result.andThen]using hv⟩
end
end
section
abbrev dO:=List UInt8
structure Nm where
 who:Int
 seq:Int
 deriving DecidableEq,Inhabited
structure Df where
 name:dO
 text:dO
 deriving DecidableEq,Inhabited
structure Ed where
 name:Nm
 needs:List Nm
 puts:List Df
 drops:List dO
 deriving DecidableEq,Inhabited
abbrev aT(n:Int):DV:=.int .i64 n
def Nm.d(n:Nm):DV:=.agg [.int .i64 n.who,.int .i64 n.seq]
def Df.d(d:Df):DV:=.agg [.str d.name,.str d.text]
def Nm.enc(n:Nm):List Value:=[.int .i64 n.who,.int .i64 n.seq]
def bY(l:List Nm):DV:=.sl (l.map Nm.d)
def jA(l:List Df):DV:=.sl (l.map Df.d)
def cQ(l:List dO):DV:=.sl (l.map .str)
def Ed.d(e:Ed):DV:=.agg [.int .i64 e.name.who,.int .i64 e.name.seq,.sl (e.needs.map Nm.d),.sl (e.puts.map Df.d),.sl (e.drops.map .str)]
def bT(l:List Ed):DV:=.sl (l.map Ed.d)
theorem uI{α:Type}{l:List α}{i:Nat}(h:i<l.length){x:α}:x∈l.take (i+1)↔x∈l.take i\/x=l[i]:=by
 have:l.take (i+1)=l.take i++[l[i]]:=by simp
 rw[this,List.mem_append,List.mem_singleton]
theorem Dx{α β:Type}{f:α->β}{acc:List α}:List.take acc.length (List.map f acc)=List.map f acc:=List.take_of_length_le (by simp)
theorem Dy{α β:Type}{f:α->β}{l:List α}{t:List β}:List.take l.length (List.map f l++t)=List.map f l:=by rw[List.take_append_of_le_length (by simp),List.take_of_length_le (by simp)]
theorem sH{α:Type}{k n:Nat}{l:List α}{x:α}(h:x∈(l.drop k).take n):x∈l:=List.mem_of_mem_drop (List.mem_of_mem_take h)
theorem Dz{l:List Nm}{y:DV}(h:y∈l.map Nm.d):(aK y).length=2/\∀c∈aK y,memless c=true:=by
 obtain⟨a,_,rfl⟩:=List.mem_map.1 h;exact⟨rfl,by simp[Nm.d,aK,memless]⟩
theorem GY{l:List Df}{y:DV}(h:y∈l.map Df.d):(aK y).length=2/\∀c∈aK y,memless c=true:=by
 obtain⟨a,_,rfl⟩:=List.mem_map.1 h;exact⟨rfl,by simp[Df.d,aK,memless]⟩
theorem DA{l:List dO}{y:DV}(h:y∈l.map DV.str):(aK y).length=1/\∀c∈aK y,memless c=true:=by
 obtain⟨a,_,rfl⟩:=List.mem_map.1 h;exact⟨rfl,by simp[aK,memless]⟩
theorem GZ{l:List Ed}{y:DV}(h:y∈l.map Ed.d):(aK y).length=5:=by
 obtain⟨a,_,rfl⟩:=List.mem_map.1 h;rfl
section
variable{l:List Nm} {m:List Df} {r:List dO} {e:List Ed} {k n:Nat}
theorem Qh:(∀y∈List.take k (List.map Nm.d l),(aK y).length=2)↔True:=iff_true_intro λ_ h=>(Dz (List.mem_of_mem_take h)).1
theorem Qi:(∀y∈List.drop k (List.map Nm.d l),(aK y).length=2)↔True:=iff_true_intro λ_ h=>(Dz (List.mem_of_mem_drop h)).1
theorem Pz:(∀y∈List.take n (List.drop k (List.map Nm.d l)),(aK y).length=2)↔True:=iff_true_intro λ_ h=>(Dz (sH h)).1
theorem Qj:(∀y∈List.take k (List.map Df.d m),(aK y).length=2)↔True:=iff_true_intro λ_ h=>(GY (List.mem_of_mem_take h)).1
theorem Qk:(∀y∈List.drop k (List.map Df.d m),(aK y).length=2)↔True:=iff_true_intro λ_ h=>(GY (List.mem_of_mem_drop h)).1
theorem PA:(∀y∈List.take n (List.drop k (List.map Df.d m)),(aK y).length=2)↔True:=iff_true_intro λ_ h=>(GY (sH h)).1
theorem PB:(∀y∈List.take k (List.map DV.str r),(aK y).length=1)↔True:=iff_true_intro λ_ h=>(DA (List.mem_of_mem_take h)).1
theorem PC:(∀y∈List.drop k (List.map DV.str r),(aK y).length=1)↔True:=iff_true_intro λ_ h=>(DA (List.mem_of_mem_drop h)).1
theorem OL:(∀y∈List.take n (List.drop k (List.map DV.str r)),(aK y).length=1)↔True:=iff_true_intro λ_ h=>(DA (sH h)).1
theorem Ql:(∀y∈List.take k (List.map Ed.d e),(aK y).length=5)↔True:=iff_true_intro λ_ h=>GZ (List.mem_of_mem_take h)
theorem Qm:(∀y∈List.drop k (List.map Ed.d e),(aK y).length=5)↔True:=iff_true_intro λ_ h=>GZ (List.mem_of_mem_drop h)
theorem PD:(∀y∈List.take n (List.drop k (List.map Ed.d e)),(aK y).length=5)↔True:=iff_true_intro λ_ h=>GZ (sH h)
end
def AY{α:Type}(p:α->Bool)(l:List α)(i:Nat):Prop:=∀j (h:j<l.length),j<i->p l[j]=false
theorem AY.zero{α:Type}{p:α->Bool}{l:List α}:AY p l 0:=λ_ _ h=>absurd h (Nat.not_lt_zero _)
theorem AY.succ{α:Type}{p:α->Bool}{l:List α}{i:Nat}(h:AY p l i)(hi:i<l.length)(hp:p l[i]=false):AY p l (i+1):=λj hj hji=>by
 by_cases e:j=i
 ·subst e;exact hp
 ·exact h j hj (by omega)
theorem AY.found{α:Type}{p:α->Bool}{l:List α}{i:Nat}(h:AY p l i)(hi:i<l.length)(hp:p l[i]=true):l.findIdx? p=some i:=by
 rw[List.findIdx?_eq_some_iff_getElem];exact⟨hi,hp,λj hj=>by rw[h j (by omega) hj];simp⟩
theorem AY.none{α:Type}{p:α->Bool}{l:List α}{i:Nat}(h:AY p l i)(hi:l.length<=i):l.findIdx? p=none:=by
 rw[List.findIdx?_eq_none_iff];intro x hx;obtain⟨j,hj,rfl⟩:=List.getElem_of_mem hx;exact h j hj (by omega)
theorem AY.any{α:Type}{p:α->Bool}{l:List α}{i:Nat}(h:AY p l i)(hi:l.length<=i):l.any p=false:=by
 rw[List.any_eq_false];intro x hx;obtain⟨j,hj,rfl⟩:=List.getElem_of_mem hx;rw[h j hj (by omega)];simp
theorem OM{α:Type}{p:α->Bool}{l:List α}{i:Nat}(hi:i<l.length)(hp:p l[i]=true):l.any p=true:=List.any_eq_true.2 ⟨_,List.getElem_mem hi,hp⟩
theorem gF{α:Type}{a b:List α}{i:Nat}(h:a.take i=b.take i)(ha:i<a.length)(hb:i<b.length)(e:a[i]=b[i]):a.take (i+1)=b.take (i+1):=by
 have h1:a.take (i+1)=a.take i++[a[i]]:=by simp
 have h2:b.take (i+1)=b.take i++[b[i]]:=by simp
 rw[h1,h2,h,e]
theorem BU{α β:Type}{f:α->β}{a:List α}{i:Nat}(ha:i<a.length):(a.take (i+1)).map f=(a.take i).map f++[f a[i]]:=by
 have h1:a.take (i+1)=a.take i++[a[i]]:=by simp
 rw[h1,List.map_append];rfl
theorem gL{α β:Type}{f:α->β}{a:List α}{i:Nat}(ha:i<a.length):(a.map f).take (i+1)=(a.map f).take i++[f a[i]]:=by
 rw[<-List.map_take,<-List.map_take,BU ha]
theorem pI{α:Type}{p:α->Bool}{a:List α}{i:Nat}(ha:i<a.length):(a.take (i+1)).filter p=(a.take i).filter p++(if p a[i]then [a[i]]else []):=by
 have h1:a.take (i+1)=a.take i++[a[i]]:=by simp
 rw[h1,List.filter_append];congr 1;simp[List.filter_cons]
def bR(n m:Int):Int:=(if n<0 then -(n+1)else n).tmod m
def Cz(l:List Int)(i m:Int):Int:=if i<0\/l.length<=i then 0 else bR (l.getD i.toNat 0) m
def Nm.less(a b:Nm):Bool:=decide (a.who<b.who)||decide (a.who=b.who)&&decide (a.seq<b.seq)
def Nm.isName(n:Nm):Bool:=decide (0<=n.who)&&decide (n.who<=3)&&decide (0<=n.seq)&&decide (n.seq<=63)
def find?(l:List Ed)(n:Nm):Option Nat:=l.findIdx? λe=>decide (e.name=n)
def bM(l:List Ed)(n:Nm):Int:=match find? l n with|some i=>i|none=> -1
def aX(l:List Ed)(n:Nm):List Nm:=match find? l n with|some i=>(l.getD i default).needs|none=>[]
def aP(e:Ed):List dO:=e.puts.map Df.name++e.drops
def wE(l:List Df)(s:dO):List Df:=l.filter λd=>decide (d.name≠s)
def nW{α:Type}(p:α->Bool)(out:List α):Nat->Nat
 |0=>0
 |k+1=>match out[k]? with
  |some y=>if p y then nW p out k else k+1
  |none=>k+1
def nE{α:Type}(k:Nat)(x:α)(out:List α):List α:=out.take k++x::out.drop k
def Ha(l:List Df)(d:Df):List Df:=nE (nW (λy=>Op.bytesLess d.name y.name) (wE l d.name) (wE l d.name).length) d (wE l d.name)
def nG(out:List Nm)(x:Nm):List Nm:=if x∈out then out else nE (nW (λy=>x.less y) out out.length) x out
theorem CA{α:Type}{p:α->Bool}{out:List α}{k:Nat}(h:∀i,k=i+1->∀(hi:i<out.length),p out[i]=false):nW p out k=k:=by
 cases k with
 |zero=>rfl
 |succ k=>
  simp only[nW];cases q:out[k]? with
  |none=>rfl
  |some y=>
   obtain⟨hk,rfl⟩:=List.getElem?_eq_some_iff.1 q;simp[h k rfl hk]
theorem Ic{α:Type}{p:α->Bool}{out:List α}{k:Nat}(hk:k<out.length)(h:p out[k]=true):nW p out (k+1)=nW p out k:=by
 simp only[nW,List.getElem?_eq_getElem hk,h,if_true]
theorem DB{α:Type}{p:α->Bool}{out:List α}:∀k,nW p out k<=k
 |0=>Nat.le_refl _
 |k+1=>by
  simp only[nW];cases out[k]? with
  |none=>exact Nat.le_refl _
  |some y=>simp only;split;exact Nat.le_succ_of_le (DB k);exact Nat.le_refl _
theorem NC{α β:Type}{f:α->β}{acc:List α}{k:Nat}{x:α}{y:β}(h:k<=acc.length)(hy:f x=y):List.take (k+1) (List.take k (List.take k (List.map f acc))++[y])++List.take (acc.length-k) (List.drop k (List.map f acc))=List.map f (nE k x acc):=by
 subst hy;have h1:List.take (k+1) (List.take k (List.take k (List.map f acc))++[f x])=List.take k (List.map f acc)++[f x]:=by
  rw[List.take_take,Nat.min_self];exact List.take_of_length_le (by simp;omega)
 have h2:List.take (acc.length-k) (List.drop k (List.map f acc))=List.drop k (List.map f acc):=List.take_of_length_le (by simp);rw[h1,h2];simp[nE]
theorem Hb{acc:List Nm}{k:Nat}{x:Nm}(h:k<=acc.length):List.take (k+1) (List.take k (List.take k (List.map Nm.d acc))++[.agg [.int .i64 x.who,.int .i64 x.seq]])++List.take (acc.length-k) (List.drop k (List.map Nm.d acc))=List.map Nm.d (nE k x acc):=NC h rfl
theorem wF{α:Type}{k:Nat}{x:α}{out:List α}:(nE k x out).length=out.length+1:=by
 unfold nE;simp;omega
def aY(l:List Nm):List Nm:=l.foldl nG []
theorem AZ{l:List Nm}{i:Nat}(h:i<l.length):aY (l.take (i+1))=nG (aY (l.take i)) l[i]:=by
 have h1:l.take (i+1)=l.take i++[l[i]]:=by simp
 unfold aY;rw[h1,List.foldl_append];rfl
def Id(bits i:Int):Bool:=decide (((bR bits 65536).fdiv (2^(i.tmod 16).toNat)).tmod 2=1)
def nH(l:List Ed)(bits:Int):List Nm:=(l.zipIdx.filter λp=>Id bits p.2).map λp=>p.1.name
def uJ(n:Int):dO:=([[97],[98],[99],[100],[97,97]]:List dO).getD (bR n 5).toNat []
def Hc(n:Int):dO:=[UInt8.ofNat (48+bR n 10).toNat]
def BV(n v:Int):Df:=⟨uJ n,[118,97,114,32]++uJ n++[32,61,32]++Hc v++[59]⟩
theorem cG(n m:Int)(hm:0<m):0<=bR n m/\bR n m<m:=by
 unfold bR;split
 ·exact⟨Int.tmod_nonneg _ (by omega),Int.tmod_lt_of_pos _ hm⟩
 ·exact⟨Int.tmod_nonneg _ (by omega),Int.tmod_lt_of_pos _ hm⟩
end
theorem ON:Tryz.prog.follows .mixedOrders=true:=by kernel_rfl
theorem PE(a b:Nm):(decide (a.who=b.who)&&decide (a.seq=b.seq))=decide (a=b):=by
 cases a;cases b;simp[Bool.decide_and]
theorem PF(a b:Df):(a.name==b.name&&a.text==b.text)=decide (a=b):=by
 cases a;cases b;simp[Bool.beq_eq_decide_eq]
end Go.Eng
namespace Go.Eng
section
variable{P:Program} {T:TypeId->eC} {N:Nat} {w0:cX} {X:Nat->Prop} {Q:LX->fJ->dU->Prop} {env:fJ} {H:dU}
theorem Lx(hT:fC P T)(hW:zO T){id:Nat}{l:List Oper}(h:(eI P T N l (λ_=>none) env H).ok/\Q .normal (eI P T N l (λ_=>none) env H).env (eI P T N l (λ_=>none) env H).H):
 eG P N w0 X (.region id l.toArray false) Q env H:=Dm hT hW (λ_=>none) (λ_=>⟨rfl,λ_ h=>h⟩) h
theorem eG.ro(hT:fC P T)(hW:zO T){id:Nat}{l:List Oper}(orc:Nat->Option hU)(h:(eI P T N l orc env H).ok/\Q .normal (eI P T N l orc env H).env (eI P T N l orc env H).H)
 (hdet:∀d,qC (orc d):=by intro d;first|exact Ba ⟨rfl,λ_ h=>h⟩|exact⟨rfl,λ_ h=>h⟩|(split<;>exact⟨rfl,λ_ h=>h⟩)):eG P N w0 X (.region id l.toArray false) Q env H:=Dm hT hW orc hdet h
theorem Hd(hT:fC P T)(hW:zO T){id:Nat}{l:List Oper}{y:Code}(h:(eI P T N l (λ_=>none) env H).ok/\uU (eG P N w0 X y Q) Q .normal (eI P T N l (λ_=>none) env H).env (eI P T N l (λ_=>none) env H).H):
 eG P N w0 X (.seq (.region id l.toArray false) y) Q env H:=eG.seq (Lx hT hW h)
theorem aS(hT:fC P T)(hW:zO T){id:Nat}{l:List Oper}{y:Code}(orc:Nat->Option hU)(h:(eI P T N l orc env H).ok/\uU (eG P N w0 X y Q) Q .normal (eI P T N l orc env H).env (eI P T N l orc env H).H)
 (hdet:∀d,qC (orc d):=by intro d;first|exact Ba ⟨rfl,λ_ h=>h⟩|exact⟨rfl,λ_ h=>h⟩|(split<;>exact⟨rfl,λ_ h=>h⟩)):eG P N w0 X (.seq (.region id l.toArray false) y) Q env H:=eG.seq (eG.ro hT hW orc h hdet)
theorem aA{id:Nat}{l:List Oper}{y:Code}(h:(eI Go.Proofs.Tryz.prog Eng.T N l (λ_=>none) env H).ok/\uU (eG Go.Proofs.Tryz.prog N w0 X y Q) Q .normal (eI Go.Proofs.Tryz.prog Eng.T N l (λ_=>none) env H).env (eI Go.Proofs.Tryz.prog Eng.T N l (λ_=>none) env H).H):
 eG Go.Proofs.Tryz.prog N w0 X (.seq (.region id l.toArray false) y) Q env H:=Hd hT hW h
theorem aG{id:Nat}{l:List Oper}(h:(eI Go.Proofs.Tryz.prog Eng.T N l (λ_=>none) env H).ok/\Q .normal (eI Go.Proofs.Tryz.prog Eng.T N l (λ_=>none) env H).env (eI Go.Proofs.Tryz.prog Eng.T N l (λ_=>none) env H).H):
 eG Go.Proofs.Tryz.prog N w0 X (.region id l.toArray false) Q env H:=Lx hT hW h
theorem Rt{id:Nat}{l:List Oper}{y z:Code}(h:(eI Go.Proofs.Tryz.prog Eng.T N l (λ_=>none) env H).ok/\uU (eG Go.Proofs.Tryz.prog N w0 X y (uU (eG Go.Proofs.Tryz.prog N w0 X z Q) Q)) (uU (eG Go.Proofs.Tryz.prog N w0 X z Q) Q) .normal (eI Go.Proofs.Tryz.prog Eng.T N l (λ_=>none) env H).env (eI Go.Proofs.Tryz.prog Eng.T N l (λ_=>none) env H).H):
 eG Go.Proofs.Tryz.prog N w0 X (.seq (.seq (.region id l.toArray false) y) z) Q env H:=eG.seq (Hd hT hW h)
theorem Ru{id:Nat}{l:List Oper}{x y:Code}{c:Operand}(h:(eI Go.Proofs.Tryz.prog Eng.T N l (λ_=>none) env H).ok/\HV (oY (eI Go.Proofs.Tryz.prog Eng.T N l (λ_=>none) env H).env c) (eG Go.Proofs.Tryz.prog N w0 X x Q (eI Go.Proofs.Tryz.prog Eng.T N l (λ_=>none) env H).env (eI Go.Proofs.Tryz.prog Eng.T N l (λ_=>none) env H).H) (eG Go.Proofs.Tryz.prog N w0 X y Q (eI Go.Proofs.Tryz.prog Eng.T N l (λ_=>none) env H).env (eI Go.Proofs.Tryz.prog Eng.T N l (λ_=>none) env H).H)):
 eG Go.Proofs.Tryz.prog N w0 X (.seq (.region id l.toArray false) (.cond c x y)) Q env H:=Hd hT hW ⟨h.1,aD h.2⟩
abbrev Rv{id:Nat}{l:List Oper}(orc:Nat->Option hU)(h:(eI Go.Proofs.Tryz.prog Eng.T N l orc env H).ok/\Q .normal (eI Go.Proofs.Tryz.prog Eng.T N l orc env H).env (eI Go.Proofs.Tryz.prog Eng.T N l orc env H).H)
 (hdet:∀d,qC (orc d):=by intro d;first|exact Ba ⟨rfl,λ_ h=>h⟩|exact⟨rfl,λ_ h=>h⟩|(split<;>exact⟨rfl,λ_ h=>h⟩)):eG Go.Proofs.Tryz.prog N w0 X (.region id l.toArray false) Q env H:=eG.ro hT hW orc h hdet
abbrev Rw{id:Nat}{l:List Oper}{y:Code}(orc:Nat->Option hU)(h:(eI Go.Proofs.Tryz.prog Eng.T N l orc env H).ok/\uU (eG Go.Proofs.Tryz.prog N w0 X y Q) Q .normal (eI Go.Proofs.Tryz.prog Eng.T N l orc env H).env (eI Go.Proofs.Tryz.prog Eng.T N l orc env H).H)
 (hdet:∀d,qC (orc d):=by intro d;first|exact Ba ⟨rfl,λ_ h=>h⟩|exact⟨rfl,λ_ h=>h⟩|(split<;>exact⟨rfl,λ_ h=>h⟩)):eG Go.Proofs.Tryz.prog N w0 X (.seq (.region id l.toArray false) y) Q env H:=aS hT hW orc h hdet
end
section
variable{P:Program} {T:TypeId->eC} {N:Nat} {w0:cX} {X:Nat->Prop} {Q:LX->fJ->dU->Prop} {env env':fJ} {H H':dU}
theorem aC{P':List Nat}(hp:w0.pins=P')(keep:List Nat)(σ:List (Nat×Nat))(hE:aU (keep.map λt=>(t,ren σ 8 (env t)))=env':=by simp)(hH:aL (σ.map λp=>(p.2,cL σ (H p.1)))=H':=by simp)
 (hσ:(σ.map (·.2)).Nodup:=by decide)(hσ1:(σ.map (·.1)).Nodup:=by decide)(hpin:(P'.all λid=>cY σ id==some id)=true:=by rfl):qD w0 env H env' H':=
 Nu keep σ hσ hσ1 (λid hid=>by rw[hp]at hid;simpa using List.all_eq_true.1 hpin id hid) hE hH
theorem bE{f:FuncId}{fn:Func}{c:Code}{args:List DV}{r:RV}{fresh:Bool}{n t:Nat}(hf:Go.Proofs.Tryz.prog.funcs[f]? =some fn)(hb:fn.body=some c)(hn:fn.ntmps=n)(hres:fn.results= #[.tmp t])
 (h:∀w0 X,w0.pins=[]->eG Go.Proofs.Tryz.prog n w0 X c (Nv t fresh r) (iW args) (aL []))(hname:(fn.name== "runtime.NumGoroutine")=false:=by kernel_rfl)(hargs:args.length<=n:=by simp)(hrt:∀rs,r≠ .tup rs:=by intro _ h;cases h):Ok Go.Proofs.Tryz.prog f args ⟨r,fresh⟩:=Ok.ret hf hname hb hn hargs hres hrt h
theorem sI{f:FuncId}{fn:Func}{c:Code}{args:List DV}{r:RV}{fresh:Bool}{n t:Nat}{ty:TypeId}(hf:Go.Proofs.Tryz.prog.funcs[f]? =some fn)(hb:fn.body=some c)(hn:fn.ntmps=n)(hres:fn.results= #[.cell t ty])
 (h:∀w0 X,w0.pins=[]->eG Go.Proofs.Tryz.prog n w0 X c (Nw Eng.T t ty fresh r) (iW args) (aL []))(hname:(fn.name== "runtime.NumGoroutine")=false:=by kernel_rfl)(hargs:args.length<=n:=by simp)(hrt:∀rs,r≠ .tup rs:=by intro _ h;cases h):Ok Go.Proofs.Tryz.prog f args ⟨r,fresh⟩:=Ok.cell hT hf hname hb hn hargs hres hrt h
theorem OO{f:FuncId}{fn:Func}{c:Code}{args:List LV}{h fin:List (Nat×aV)}{n:Nat}(hf:Go.Proofs.Tryz.prog.funcs[f]? =some fn)(hb:fn.body=some c)(hn:fn.ntmps=n)(hres:fn.results= #[])
 (hw:∀w0 X,w0.pins=h.map (·.1)->eG Go.Proofs.Tryz.prog n w0 X c (Cy w0 fin) (Dv args) (aL h))(hname:(fn.name== "runtime.NumGoroutine")=false:=by kernel_rfl)(hargs:args.length<=n:=by simp):BO Go.Proofs.Tryz.prog f args h fin (.tup []):=Lq hf hname hb hn hargs hres hw
theorem DC{f:FuncId}{fn:Func}{c:Code}{args:List LV}{h fin:List (Nat×aV)}{ret:LV}{n t:Nat}(hf:Go.Proofs.Tryz.prog.funcs[f]? =some fn)(hb:fn.body=some c)(hn:fn.ntmps=n)(hres:fn.results= #[.tmp t])
 (hw:∀w0 X,w0.pins=h.map (·.1)->eG Go.Proofs.Tryz.prog n w0 X c (HZ w0 t fin ret) (Dv args) (aL h))(hname:(fn.name== "runtime.NumGoroutine")=false:=by kernel_rfl)(hargs:args.length<=n:=by simp):BO Go.Proofs.Tryz.prog f args h fin ret:=BO.one hf hname hb hn hargs hres hw
theorem Ly{f:FuncId}{fn:Func}{c:Code}{args:List LV}{h fin:List (Nat×aV)}{ret:LV}{n t:Nat}{ty:TypeId}(hf:Go.Proofs.Tryz.prog.funcs[f]? =some fn)(hb:fn.body=some c)(hn:fn.ntmps=n)(hres:fn.results= #[.cell t ty])
 (hw:∀w0 X,w0.pins=h.map (·.1)->eG Go.Proofs.Tryz.prog n w0 X c (Ib w0 Eng.T t ty fin ret) (Dv args) (aL h))(hname:(fn.name== "runtime.NumGoroutine")=false:=by kernel_rfl)(hargs:args.length<=n:=by simp):BO Go.Proofs.Tryz.prog f args h fin ret:=BO.cell hT hf hname hb hn hargs hres hw
abbrev aB{P:Program}{N:Nat}{w0:cX}{X:Nat->Prop}{Q:LX->fJ->dU->Prop}{env:fJ}{H:dU}{x y:Code}(h:eG P N w0 X x (uU (eG P N w0 X y Q) Q) env H):=eG.seq h
abbrev aN{P:Program}{N:Nat}{w0:cX}{X:Nat->Prop}{Q:LX->fJ->dU->Prop}{env:fJ}{H:dU}(h:Q .ret env H):eG P N w0 X .ret Q env H:=eG.ret h
abbrev aH{P:Program}{N:Nat}{w0:cX}{X:Nat->Prop}{Q:LX->fJ->dU->Prop}{env:fJ}{H:dU}(h:Q .normal env H):eG P N w0 X .skip Q env H:=eG.skip h
abbrev aO{P:Program}{N:Nat}{w0:cX}{X:Nat->Prop}{Q:LX->fJ->dU->Prop}{env:fJ}{H:dU}{id:Nat}(h:Q (.exit id) env H):eG P N w0 X (.exit id) Q env H:=eG.exit h
abbrev aF{P:Program}{N:Nat}{w0:cX}{X:Nat->Prop}{Q:LX->fJ->dU->Prop}{env:fJ}{H:dU}{id:Nat}{c:Code}(h:eG P N w0 X c (AL id Q) env H):eG P N w0 X (.block id c) Q env H:=eG.block h
abbrev Rx{P:Program}{N:Nat}{w0:cX}{X:Nat->Prop}{Q:LX->fJ->dU->Prop}{env:fJ}{H:dU}{id:Nat}{x y:Code}(h:eG P N w0 X x (AL id (uU (eG P N w0 X y Q) Q)) env H):eG P N w0 X (.seq (.block id x) y) Q env H:=eG.seq (eG.block h)
abbrev Ry{P:Program}{N:Nat}{w0:cX}{X:Nat->Prop}{Q:LX->fJ->dU->Prop}{env:fJ}{H:dU}{x y z:Code}(h:eG P N w0 X x (uU (eG P N w0 X y (uU (eG P N w0 X z Q) Q)) (uU (eG P N w0 X z Q) Q)) env H):eG P N w0 X (.seq (.seq x y) z) Q env H:=eG.seq (eG.seq h)
def og(n:Nat)(x:hU)(d:Nat):Option hU:=if d=n then some x else none
@[simp] theorem PW{n:Nat}{x:hU}:og n x n=some x:=if_pos rfl
theorem Ba{n d:Nat}{x:hU}(h:qC (some x)):qC (og n x d):=by
 unfold og;split
 ·exact h
 ·exact⟨rfl,λ_ h=>h⟩
@[simp] theorem Qs{n d:Nat}{x:hU}(h:d≠n):og n x d=none:=if_neg h
abbrev oh(n:Nat)(A:List (Nat×aV))(B:LV):Nat->Option hU:=og n (.gen ⟨[(0,0)],[],[],A,B⟩)
def Rz(l:List Oper):List (List Nat):=l.foldl (λacc o=>acc++[o.after.toList.foldl (λs e=>if Region.binds .any e then(if s.contains e.on then s else e.on::s)++((acc.getD e.on []).filter λi=> !(i==e.on||s.contains i))else s) []]) []
def Qt(l:List Oper)(j:Nat):List Nat:=(Rz l).getD j []
theorem bI{id:Nat}{l:List Oper}(hide wr:List (List Nat))(orc:Nat->Option hU)
 (h:(nV Go.Proofs.Tryz.prog Eng.T N l orc (lk hide) (lk wr) ⟨env,H,True⟩).ok/\Q .normal (nV Go.Proofs.Tryz.prog Eng.T N l orc (lk hide) (lk wr) ⟨env,H,True⟩).env (nV Go.Proofs.Tryz.prog Eng.T N l orc (lk hide) (lk wr) ⟨env,H,True⟩).H)
 (hA:uW l (Qt l) (lk hide) (lk wr)=true:=by kernel_rfl)(hdet:∀d,qC (orc d):=by intro d;first|exact Ba ⟨rfl,λ_ h=>h⟩|exact⟨rfl,λ_ h=>h⟩|(split<;>exact⟨rfl,λ_ h=>h⟩)):eG Go.Proofs.Tryz.prog N w0 X (.region id l.toArray true) Q env H:=
 GL hT hW (by kernel_rfl) (Qt l) (lk hide) (lk wr) hA orc hdet h
end
end Go.Eng
namespace Go.Eng
attribute[simp] eI eZ gQ bK oY mE jV Cr bU bP iO.plain iO.cond iO.fail uU AL iW nZ gP oF memless Dn lL tG Iw Pp oC gM strip Cq iQ xG cD nV fH gZ gR gY uB lk cL cY cF gA cC An gB Em kR mY bX lM eM jE gO GN GO ES GP IY IZ Ja GQ ET GR EU GS Jc Jd Jg Jh GT Jk Cf Ak mkAgg rT Ga eX bH eE aV.live TK.isNone TK.agg TK.isBool TK.isStr TK.isStruct Op.operands Call.operands dQ gU cZ gJ oZ Al HQ jF eS oQ bF frozen oI KY KZ HX IW Lb Lc Ld Lh HY IX Lj Lk Ll Ln Pw Nx OB OC OE OF OH Lo KW IV GM Nm.d Df.d Ed.d bY jA cQ bT KX PE PF Dx Dy Qh Qi Pz Qj Qk PA PB PC OL Ql Qm PD fB dK jH xD jL dL fU dD lP Kr TK.isInt La Li OD Jf oB jG lN lO rU iU lH Am El yG mF Pv uD iK mX kQ jD mO dH pU jI jJ fL Dv Jl Dw Jm Jn cL Lf Lg OA AW Jo Lr Ji Jj GV fY oA TK.isPtr jK cE Lt Ia Ls Le Lm OG Jb Je GU
attribute[local simp] bA bW aQ aZ
theorem He(l:List Nm)(n:Nm):Ok Tryz.prog 125 [bY l,n.d] ⟨.d (.bool (decide (n∈l))),true⟩:=by
 refine bE Tryz.func125 rfl Tryz.ntmps125 Tryz.results125 λw0 X hp=>?_;refine eG.len (t:=0) rfl λhlen=>?_;simp at hlen;refine aA ?_;simp;refine aB ?_;refine aA ?_;simp;refine aF ?_;refine aJ (ι:=Nat) (λi=>aU [(0,.d (bY l)),(3,.bx 3 0),(5,.d (aT i))]) (λi=>aL [(3,.box false [.d (aT n.who),.d (aT n.seq)])]) (λi=>i<=l.length/\n∉l.take i) (λi=>l.length-i) 0 (aC hp [0,3,5] [(3,3)]) (by simp) λi hi2=>?_;refine aB ?_;refine aA ?_;simp;refine aD ?_;simp;refine⟨λh2=>?_,λh2=>?_⟩
 ·refine aH ?_;simp;refine aB ?_;refine aF ?_;refine aB ?_;refine bI [] [] (λ_=>none) ?_;simp[h2];refine aD ?_;simp;refine⟨λh4=>?_,λh4=>?_⟩
  ·refine aA ?_;simp;refine aN ?_;simp;rw[<-h4];exact List.getElem_mem h2
  ·refine aH ?_;simp;refine aG ?_;simp;refine⟨by omega,?_⟩;refine aI (i+1) (aC hp [0,3,5] [(3,3)]) ?_ ?_
   ·exact⟨h2,λhm=>((uI h2).1 hm).elim hi2.2 λe=>h4 e.symm⟩
   ·omega
 ·refine aO ?_;simp;refine aA ?_;simp;refine aN ?_;simp;have e:i=l.length:=by omega
  have:=hi2.2;rw[e,List.take_length]at this;exact this
theorem dE(n m:Int)(h1: -9223372036854775808<=n)(h2:n<=9223372036854775807)(hm:m≠0):Ok Tryz.prog 51 [aT n,aT m] ⟨.d (aT (bR n m)),true⟩:=by
 refine bE Tryz.func51 rfl Tryz.ntmps51 Tryz.results51 λw0 X hp=>?_;refine aA ?_;simp;refine aB ?_;refine aA ?_;simp;refine aD ?_;simp;refine⟨λh1=>?_,λh1=>?_⟩
 ·refine aG ?_;simp;refine⟨by omega,?_⟩;refine aA ?_;simp;refine⟨hm,?_⟩;refine aN ?_;simp[bR,h1]
 ·refine aH ?_;simp;refine aA ?_;simp;refine⟨hm,?_⟩;refine aN ?_;have:¬n<0:=by omega
  simp[bR,this]
theorem Ie(l:List Int)(i m:Int)(hl:∀n∈l, -9223372036854775808<=n/\n<=9223372036854775807)(hm:m≠0):Ok Tryz.prog 107 [.sl (l.map aT),aT i,aT m] ⟨.d (aT (Cz l i m)),true⟩:=by
 refine bE Tryz.func107 rfl Tryz.ntmps107 Tryz.results107 λw0 X hp=>?_;refine aA ?_;simp;refine aB ?_;refine aB ?_;refine eG.len (t:=0) rfl λhlen=>?_;simp at hlen;refine aG ?_;simp;refine aD ?_;simp;refine⟨λh1=>?_,λh1 h2=>?_⟩
 ·refine aA ?_;simp;refine aN ?_;simp[Cz,h1]
 ·obtain⟨k,rfl⟩:=Int.eq_ofNat_of_zero_le h1;have hi':k<l.length:=by omega
  refine aH ?_;simp;refine aS hT hW (λ|20=>some<| .plain ⟨.d (aT (bR l[k] m)),true⟩|_=>none) ?_;simp[h2,hi'];refine⟨dE _ _ (hl _ (List.getElem_mem hi')).1 (hl _ (List.getElem_mem hi')).2 hm,?_⟩;refine aN ?_;simp[Cz,hi'];omega
theorem If(a b:Nm):Ok Tryz.prog 126 [a.d,b.d] ⟨.d (.bool (a.less b)),true⟩:=by
 refine bE Tryz.func126 rfl Tryz.ntmps126 Tryz.results126 λw0 X hp=>?_;refine aA ?_;simp;refine aA ?_;simp;refine⟨by omega,?_⟩;refine aN ?_;simp[Nm.less]
theorem CB(n:Nm):Ok Tryz.prog 194 [n.d] ⟨.d (.bool n.isName),true⟩:=by
 refine bE Tryz.func194 rfl Tryz.ntmps194 Tryz.results194 λw0 X hp=>?_;refine aA ?_;simp;refine aA ?_;simp;refine aN ?_;simp[Nm.isName]
theorem Oa(l:List dO)(s:dO):Ok Tryz.prog 128 [cQ l,.str s] ⟨.d (.bool (decide (s∈l))),true⟩:=by
 refine bE Tryz.func128 rfl Tryz.ntmps128 Tryz.results128 λw0 X hp=>?_;refine eG.len (t:=0) rfl λhlen=>?_;simp at hlen;refine aA ?_;simp;refine aB ?_;refine aA ?_;simp;refine aF ?_;refine aJ (ι:=Nat) (λi=>aU [(0,.d (cQ l)),(1,.d (.str s)),(5,.d (aT i))]) (λi=>aL []) (λi=>i<=l.length/\s∉l.take i) (λi=>l.length-i) 0 (aC hp [0,1,5] []) (by simp) λi hi2=>?_;refine aB ?_;refine aA ?_;simp;refine aD ?_;simp;refine⟨λh2=>?_,λh2=>?_⟩
 ·refine aH ?_;simp;refine aB ?_;refine aF ?_;refine aA ?_;simp[h2];refine aD ?_;simp;refine⟨λh4=>?_,λh4=>?_⟩
  ·refine aA ?_;simp;refine aN ?_;simp;rw[<-h4];exact List.getElem_mem h2
  ·refine aH ?_;simp;refine aG ?_;simp;refine⟨by omega,?_⟩;refine aI (i+1) (aC hp [0,1,5] []) ?_ ?_
   ·exact⟨h2,λhm=>((uI h2).1 hm).elim hi2.2 λe=>h4 e.symm⟩
   ·omega
 ·refine aO ?_;simp;refine aA ?_;simp;refine aN ?_;simp;have e:i=l.length:=by omega
  have:=hi2.2;rw[e,List.take_length]at this;exact this
theorem zY(l:List Ed)(n:Nm):Ok Tryz.prog 123 [bT l,n.d] ⟨.d (aT (bM l n)),true⟩:=by
 refine bE Tryz.func123 rfl Tryz.ntmps123 Tryz.results123 λw0 X hp=>?_;refine eG.len (t:=0) rfl λhlen=>?_;simp at hlen;refine aA ?_;simp;refine aB ?_;refine aA ?_;simp;refine aF ?_;refine aJ (ι:=Nat) (λi=>aU [(0,.d (bT l)),(3,.bx 3 0),(5,.d (aT i))]) (λi=>aL [(3,.box false [.d (aT n.who),.d (aT n.seq)])]) (λi=>i<=l.length/\AY (λe=>decide (e.name=n)) l i) (λi=>l.length-i) 0 (aC hp [0,3,5] [(3,3)]) (⟨Nat.zero_le _,AY.zero⟩) λi hi2=>?_;refine aB ?_;refine aA ?_;simp;refine aD ?_;simp;refine⟨λh2=>?_,λh2=>?_⟩
 ·refine aH ?_;simp;refine aB ?_;refine aF ?_;refine aB ?_;refine bI [] [] (λ_=>none) ?_;simp[h2];refine aD ?_;simp;refine⟨λh4=>?_,λh4=>?_⟩
  ·refine aA ?_;simp;refine aN ?_;have:=hi2.2.found h2 (by simpa using h4);simp[bM,find?,this]
  ·refine aH ?_;simp;refine aG ?_;simp;refine⟨by omega,?_⟩;refine aI (i+1) (aC hp [0,3,5] [(3,3)]) ?_ ?_
   ·exact⟨h2,hi2.2.succ h2 (by simpa using h4)⟩
   ·omega
 ·refine aO ?_;simp;refine aA ?_;simp;refine aN ?_;have:=hi2.2.none (by omega);simp[bM,find?,this]
theorem EX(l:List Ed)(n:Nm):Ok Tryz.prog 263 [bT l,n.d] ⟨.d (bY (aX l n)),false⟩:=by
 refine bE Tryz.func263 rfl Tryz.ntmps263 Tryz.results263 λw0 X hp=>?_;refine eG.len (t:=0) rfl λhlen=>?_;simp at hlen;refine aA ?_;simp;refine aB ?_;refine aA ?_;simp;refine aF ?_;refine aJ (ι:=Nat) (λi=>aU [(0,.d (bT l)),(3,.bx 3 0),(5,.d (aT i))]) (λi=>aL [(3,.box false [.d (aT n.who),.d (aT n.seq)])]) (λi=>i<=l.length/\AY (λe=>decide (e.name=n)) l i) (λi=>l.length-i) 0 (aC hp [0,3,5] [(3,3)]) (⟨Nat.zero_le _,AY.zero⟩) λi hi2=>?_;refine aB ?_;refine aA ?_;simp;refine aD ?_;simp;refine⟨λh2=>?_,λh2=>?_⟩
 ·refine aH ?_;simp;refine aB ?_;refine aF ?_;refine aB ?_;refine bI [] [] (λ_=>none) ?_;simp[h2];refine aD ?_;simp;refine⟨λh4=>?_,λh4=>?_⟩
  ·refine aA ?_;simp[h2];refine aN ?_;have:=hi2.2.found h2 (by simpa using h4);simp[aX,find?,this,bY,h2]
  ·refine aH ?_;simp;refine aG ?_;simp;refine⟨by omega,?_⟩;refine aI (i+1) (aC hp [0,3,5] [(3,3)]) ?_ ?_
   ·exact⟨h2,hi2.2.succ h2 (by simpa using h4)⟩
   ·omega
 ·refine aO ?_;simp;refine aA ?_;simp;refine aN ?_;have:=hi2.2.none (by omega);simp[aX,find?,this,bY]
section
attribute[local simp] bA bW aQ aZ
theorem wG(l:List Ed)(hl:l.length<=1100000):Ok Tryz.prog 48 [bT l] ⟨.d (bY (l.map Ed.name)),true⟩:=by
 refine bE Tryz.func48 rfl Tryz.ntmps48 Tryz.results48 λw0 X hp=>?_;refine aA ?_;simp;refine aA ?_;simp;refine aB ?_;refine aA ?_;simp;refine aF ?_;refine aJ (ι:=Nat×List Nm) (λ⟨i,acc⟩=>aU [(0,.d (bT l)),(3,.ow 3 0 acc.length),(4,.d (aT i))]) (λ⟨i,acc⟩=>aL [(3,.row false 2 (acc.map Nm.d))]) (λ⟨i,acc⟩=>i<=l.length/\acc.length=i/\acc=(l.map Ed.name).take i) (λ⟨i,acc⟩=>l.length-i) (0,[]) (aC hp [0,3,4] [(3,3)]) (by simp) λ⟨i,acc⟩ hi3=>?_;refine aB ?_;refine aA ?_;simp;refine aD ?_;simp;refine⟨λh3=>?_,λh3=>?_⟩
 ·refine aH ?_;simp;refine aB ?_;refine aF ?_;refine aG ?_;simp[h3];refine⟨by have:=hi3.2.1;omega,?_⟩;refine aG ?_;simp;refine⟨by omega,?_⟩;refine aI (i+1,acc++[l[i].name]) (aC hp [0,3,4] [(18,3)]) ?_ ?_
  ·exact⟨h3,by simp[hi3.2.1],by rw[gL h3,<-hi3.2.2]⟩
  ·omega
 ·refine aO ?_;simp;refine aA ?_;simp;refine aN ?_;have e:i=l.length:=by omega
  have:=hi3.2.2;rw[e]at this;simp[this]
theorem uX(e:Ed)(h1:e.puts.length<=1100000)(h2:e.drops.length<=1100000):Ok Tryz.prog 127 [e.d] ⟨.d (cQ (aP e)),true⟩:=by
 refine bE Tryz.func127 rfl Tryz.ntmps127 Tryz.results127 λw0 X hp=>?_;refine aA ?_;simp;refine aA ?_;simp;refine aB ?_;refine aA ?_;simp;refine aF ?_;refine aJ (ι:=Nat×List dO) (λ⟨i,acc⟩=>aU [(1,.bx 1 0),(3,.ow 3 0 acc.length),(4,.d (aT i))]) (λ⟨i,acc⟩=>aL [(3,.row false 1 (acc.map .str)),(1,.box false ((aK e.d).map .d))]) (λ⟨i,acc⟩=>i<=e.puts.length/\acc.length=i/\acc=(e.puts.map Df.name).take i) (λ⟨i,acc⟩=>e.puts.length-i) (0,[]) (aC hp [1,3,4] [(3,3),(1,1)]) (by simp) λ⟨i,acc⟩ hi3=>?_;refine aB ?_;refine aA ?_;simp;refine aD ?_;simp;refine⟨λh3=>?_,λh3=>?_⟩
 ·refine aH ?_;simp;refine aB ?_;refine aF ?_;refine aG ?_;simp[h3];refine⟨by have:=hi3.2.1;omega,?_⟩;refine aG ?_;simp;refine⟨by omega,?_⟩;refine aI (i+1,acc++[e.puts[i].name]) (aC hp [1,3,4] [(20,3),(1,1)]) ?_ ?_
  ·exact⟨h3,by simp[hi3.2.1],by rw[gL h3,<-hi3.2.2]⟩
  ·omega
 ·refine aO ?_;simp;refine aA ?_;simp;refine⟨by have:=hi3.2.1;omega,?_⟩;refine aN ?_;have q:i=e.puts.length:=by omega
  have:=hi3.2.2;rw[q]at this;have q2:∀(x y:List DV) (n:Nat),n=x.length+y.length->List.take n (x++y)=x++y:=λx y n h=>List.take_of_length_le (by simp[h]);simp[this,aP,q2];rintro x (⟨a,_,rfl⟩|⟨a,_,rfl⟩)<;>simp
theorem qM(a b:List Nm):Ok Tryz.prog 70 [bY a,bY b] ⟨.d (.bool (decide (a=b))),true⟩:=by
 refine bE Tryz.func70 rfl Tryz.ntmps70 Tryz.results70 λw0 X hp=>?_;refine eG.len (t:=0) rfl λhlen=>?_;simp at hlen;refine aA ?_;simp;refine aB ?_;refine aA ?_;simp;refine aD ?_;simp;refine⟨λh1=>?_,λh1=>?_⟩
 ·refine aA ?_;simp;refine aN ?_;simp;exact λe=>h1 (by rw[e])
 ·refine aH ?_;simp;refine aB ?_;refine aA ?_;simp;refine aF ?_;refine aJ (ι:=Nat) (λi=>aU [(0,.d (bY a)),(1,.d (bY b)),(5,.d (aT i))]) (λi=>aL []) (λi=>i<=a.length/\a.take i=b.take i) (λi=>a.length-i) 0 (aC hp [0,1,5] []) (by simp) λi hi4=>?_;refine aB ?_;refine aA ?_;simp;refine aD ?_;simp;refine⟨λh4=>?_,λh4=>?_⟩
  ·refine aH ?_;simp;refine aB ?_;refine aF ?_;refine aB ?_;refine bI [] [] (λ_=>none) ?_;simp[h4,show i<b.length by omega];refine aD ?_;simp;refine⟨λh6=>?_,λh6=>?_⟩
   ·refine aA ?_;simp;refine aN ?_;simp;intro e;subst e;simp at h6
   ·refine aH ?_;simp;refine aG ?_;simp;refine⟨by omega,?_⟩;refine aI (i+1) (aC hp [0,1,5] []) ?_ ?_
    ·exact⟨h4,gF hi4.2 h4 (by omega) (by simpa using h6)⟩
    ·omega
  ·refine aO ?_;simp;refine aA ?_;simp;refine aN ?_;simp;have e:i=a.length:=by omega
   have:=hi4.2;rw[e,List.take_length]at this;have h1':a.length=b.length:=by omega
   rw[this,h1',List.take_length]
theorem EY(a b:List Df):Ok Tryz.prog 71 [jA a,jA b] ⟨.d (.bool (decide (a=b))),true⟩:=by
 refine bE Tryz.func71 rfl Tryz.ntmps71 Tryz.results71 λw0 X hp=>?_;refine eG.len (t:=0) rfl λhlen=>?_;simp at hlen;refine aA ?_;simp;refine aB ?_;refine aA ?_;simp;refine aD ?_;simp;refine⟨λh1=>?_,λh1=>?_⟩
 ·refine aA ?_;simp;refine aN ?_;simp;exact λe=>h1 (by rw[e])
 ·refine aH ?_;simp;refine aB ?_;refine aA ?_;simp;refine aF ?_;refine aJ (ι:=Nat) (λi=>aU [(0,.d (jA a)),(1,.d (jA b)),(5,.d (aT i))]) (λi=>aL []) (λi=>i<=a.length/\a.take i=b.take i) (λi=>a.length-i) 0 (aC hp [0,1,5] []) (by simp) λi hi4=>?_;refine aB ?_;refine aA ?_;simp;refine aD ?_;simp;refine⟨λh4=>?_,λh4=>?_⟩
  ·refine aH ?_;simp;refine aB ?_;refine aF ?_;refine aB ?_;refine bI [] [] (λ_=>none) ?_;simp[h4,show i<b.length by omega];refine aD ?_;simp;refine⟨λh6=>?_,λh6=>?_⟩
   ·refine aA ?_;simp;refine aN ?_;simp;intro e;subst e;simp at h6
   ·refine aH ?_;simp;refine aG ?_;simp;refine⟨by omega,?_⟩;refine aI (i+1) (aC hp [0,1,5] []) ?_ ?_
    ·exact⟨h4,gF hi4.2 h4 (by omega) (by simpa using h6)⟩
    ·omega
  ·refine aO ?_;simp;refine aA ?_;simp;refine aN ?_;simp;have e:i=a.length:=by omega
   have:=hi4.2;rw[e,List.take_length]at this;have h1':a.length=b.length:=by omega
   rw[this,h1',List.take_length]
end
section
attribute[local simp] bA bW aQ aZ
theorem zZ(l:List Nm)(hl:l.length<=1100000):Ok Tryz.prog 47 [bY l] ⟨.d (bY (aY l)),true⟩:=by
 refine bE Tryz.func47 rfl Tryz.ntmps47 Tryz.results47 λw0 X hp=>?_;refine aA ?_;simp;refine aA ?_;simp;refine aB ?_;refine aA ?_;simp;refine aF ?_;refine aJ (ι:=Nat×List Nm) (λ⟨i,acc⟩=>aU [(0,.d (bY l)),(3,.ow 3 0 acc.length),(4,.d (aT i))]) (λ⟨i,acc⟩=>aL [(3,.row false 2 (acc.map Nm.d))]) (λ⟨i,acc⟩=>i<=l.length/\acc.length<=i/\acc=aY (l.take i)) (λ⟨i,acc⟩=>l.length-i) (0,[]) (aC hp [0,3,4] [(3,3)]) (by simp[aY]) λ⟨i,acc⟩ hi3=>?_;refine aB ?_;refine aA ?_;simp;refine aD ?_;simp;refine⟨λh3=>?_,λh3=>?_⟩
 ·refine aH ?_;simp;refine aB ?_;refine aF ?_;refine aB ?_;refine aS hT hW (λ|17=>some<| .plain ⟨.d (.bool (decide (l[i]∈acc))),true⟩|_=>none) ?_;simp[h3];refine⟨He acc l[i],?_⟩;refine aD ?_;simp;refine⟨λh5=>?_,λh5=>?_⟩
  ·refine aO ?_;simp;refine aG ?_;simp;refine⟨by omega,?_⟩;refine aI (i+1,acc) (aC hp [0,3,4] [(3,3)]) ?_ ?_
   ·exact⟨h3,by have:=hi3.2.1;simp;omega,by rw[AZ h3,<-hi3.2.2];simp[nG,h5]⟩
   ·omega
  ·refine aH ?_;simp;refine aA ?_;simp;refine aB ?_;refine aF ?_;refine aJ (ι:=Nat) (λk=>aU [(0,.d (bY l)),(3,.ow 3 0 acc.length),(4,.d (aT i)),(5,.d (aT k))]) (λk=>aL [(3,.row false 2 (acc.map Nm.d))]) (λk=>k<=acc.length/\nW (λy=>l[i].less y) acc k=nW (λy=>l[i].less y) acc acc.length) (λk=>k) acc.length (aC hp [0,3,4,5] [(3,3)]) (by simp) λk hi7=>?_;refine aB ?_;refine aB ?_;refine bI [] [[],[],[],[],[],[],[],[],[],[],[],[],[32]] (λ|32=>some<| .plain ⟨.d (.bool (l[i].less (acc.getD (k-1) default))),true⟩|_=>none) ?_;simp[h3];refine⟨⟨⟨by omega,λhk=>?_⟩,λhk=>?_⟩,?_⟩
   ·have hk':k-1<acc.length:=(by omega);simp[hk']
   ·have hk':k-1<acc.length:=(by omega);simpa [hk']using If l[i] acc[k-1]
   refine aD ?_;simp;refine⟨λh7 h7'=>?_,λh7=>?_⟩
   ·obtain⟨k,rfl⟩:∃j,k=j+1:=⟨k-1,by omega⟩;refine aH ?_;simp;refine aF ?_;refine aG ?_;simp;refine⟨by omega,?_⟩;refine aI k (aC hp [0,3,4,5] [(3,3)]) ?_ ?_
    ·have hk:k<acc.length:=hi7.1;refine⟨by omega,?_⟩;rw[<-hi7.2,Ic hk (by simpa [hk]using h7')]
    ·omega
   ·refine aO ?_;simp;refine bI [[45],[36,45],[36,45],[36,45],[45],[36,40],[36,40],[36,40],[36,40],[36,40],[],[36,40,45,46],[36,40,45,46],[36,40,45,46]] [[36],[],[],[],[36,40],[],[],[],[],[45],[40,46],[],[],[],[46,50]] (λ_=>none) ?_;simp[h3];have hb:=hi3.2.1;have hc:=hi7.1;refine⟨by omega,?_⟩;refine aG ?_;simp;refine⟨by omega,?_⟩;refine aI (i+1,nE k l[i] acc) (aC hp [0,3,4] [(50,3)] (by simp[wF,Nat.min_eq_left hi7.1,show k+1+(acc.length-k)=acc.length+1 by have:=hi7.1;omega]) (by simp[Nat.min_eq_left hi7.1,Hb hi7.1])) ?_ ?_
    ·refine⟨h3,by have:=hi3.2.1;simp[wF];omega,?_⟩;rw[AZ h3,<-hi3.2.2];have hk:nW (λy=>l[i].less y) acc k=k:=CA λj hj hjl=>by
      subst hj;simpa [hjl]using h7 (by omega)
     simp only[nG,if_neg h5,<-hi7.2,hk]
    ·omega
 ·refine aO ?_;simp;refine aA ?_;simp;refine aN ?_;have q:i=l.length:=by omega
  have:=hi3.2.2;rw[q,List.take_length]at this;simp[<-this]
end
theorem xL{α:Type}{p q:α->Bool}{m:α}:∀{U:List α},(∀x,q x=true->p x=true)->m∈U->p m=true->q m=false->(U.filter q).length<(U.filter p).length
 |[],_,h,_,_=>by cases h
 |x::U,hpq,h,hp,hq=>by
  have hle:∀V:List α,(V.filter q).length<=(V.filter p).length:=by
   intro V;induction V with
   |nil=>exact Nat.le_refl _
   |cons y V ih=>
    simp only[List.filter_cons];cases e1:q y with
    |true=>rw[hpq y e1];simp;exact ih
    |false=>cases p y<;>simp<;>omega
  simp only[List.filter_cons];by_cases e:x=m
  ·subst e;rw[hp,hq];simp;have:=hle U;omega
  ·have hm:m∈U:=by rcases List.mem_cons.1 h with h|h;exact absurd h.symm e;exact h
   have:=xL hpq hm hp hq;cases e1:q x with
   |true=>rw[hpq x e1];simp;exact this
   |false=>cases p x<;>simp<;>omega
theorem CC{α:Type}{p q:α->Bool}:∀{U:List α},(∀x,q x=true->p x=true)->(U.filter q).length<=(U.filter p).length
 |[],_=>Nat.le_refl _
 |y::V,hpq=>by
  have ih:=CC (U:=V) hpq;simp only[List.filter_cons];cases e1:q y with
  |true=>rw[hpq y e1];simp;exact ih
  |false=>cases p y<;>simp<;>omega
def bC(l:List Ed):List Nm:=l.flatMap Ed.needs
def mu(l:List Ed)(M:List Nm):Nat:=((bC l).filter λx=>decide (x∉M)).length
theorem mP{l:List Ed}{n m:Nm}(h:m∈aX l n):m∈bC l:=by
 unfold aX at h;split at h
 ·rename_i i hi;unfold find? at hi;obtain⟨hi,_,_⟩:=List.findIdx?_eq_some_iff_getElem.1 hi;simp[List.getD_eq_getElem?_getD,hi]at h;exact List.mem_flatMap.2 ⟨_,List.getElem_mem hi,h⟩
 ·cases h
theorem Ig{l:List Ed}{M:List Nm}{m:Nm}(h:m∈bC l)(hm:m∉M):mu l (M++[m])<mu l M:=
 xL (λx hx=>by simp at hx|-;exact hx.1) h (by simpa using hm) (by simp)
theorem Ob{l:List Ed}{M M':List Nm}(h:∀x∈M,x∈M'):mu l M'<=mu l M:=
 CC λx hx=>by simp at hx|-;exact λhm=>hx (h x hm)
def gN(l:List Ed):Nat->Nm->List Nm->List Nm
 |0,_,M=>M
 |f+1,n,M=>(aX l n).foldl (λM m=>if m∈M then M else gN l f m (M++[m])) M
def jW(l:List Ed)(f:Nat)(M:List Nm)(m:Nm):List Nm:=if m∈M then M else gN l f m (M++[m])
theorem oJ(l:List Ed)(f:Nat)(n:Nm)(M:List Nm):gN l (f+1) n M=(aX l n).foldl (jW l f) M:=rfl
inductive lV(l:List Ed):Nm->Nm->Prop
 |one {n m:Nm} (h:m∈aX l n):lV l n m
 |next {n m k:Nm} (h:m∈aX l n) (r:lV l m k):lV l n k
theorem lV.snoc{l:List Ed}{n m k:Nm}(r:lV l n m)(h:k∈aX l m):lV l n k:=by
 induction r with
 |one h1=>exact .next h1 (.one h)
 |next h1 _ ih=>exact .next h1 (ih h)
theorem Bb(l:List Ed):∀(f:Nat) (n:Nm) (M:List Nm),mu l M<f->
 (∀x∈M,x∈gN l f n M)/\(∀x∈gN l f n M,x∈M\/lV l n x)/\(∀x∈aX l n,x∈gN l f n M)/\∀x∈gN l f n M,x∉M->∀y∈aX l x,y∈gN l f n M:=by
 intro f;induction f with
 |zero=>intro n M h;omega
 |succ f ih=>
  intro n M hM;rw[oJ];have key:∀(L:List Nm),(∀m∈L,m∈bC l)->∀M,mu l M<f+1->
   (∀x∈M,x∈L.foldl (jW l f) M)/\(∀x∈L.foldl (jW l f) M,x∈M\/∃m∈L,x=m\/lV l m x)/\(∀x∈L,x∈L.foldl (jW l f) M)/\∀x∈L.foldl (jW l f) M,x∉M->∀y∈aX l x,y∈L.foldl (jW l f) M:=by
   intro L;induction L with
   |nil=>intro _ M _;exact⟨λx hx=>hx,λx hx=>.inl hx,λx hx=>(by cases hx),λx hx hn=>absurd hx hn⟩
   |cons m L ihL=>
    intro hL M hM;have hm:m∈bC l:=hL m (by simp);have hL':∀x∈L,x∈bC l:=λx hx=>hL x (by simp[hx]);simp only[List.foldl_cons];unfold jW;by_cases hin:m∈M
    ·rw[if_pos hin];obtain⟨h1,h2,h3,h4⟩:=ihL hL' M hM;refine⟨h1,λx hx=>(h2 x hx).imp id λ⟨k,hk,hr⟩=>⟨k,by simp[hk],hr⟩,λx hx=>?_,h4⟩;rcases List.mem_cons.1 hx with rfl|hx
     ·exact h1 _ hin
     ·exact h3 x hx
    ·rw[if_neg hin];have hlt:=Ig hm hin;obtain⟨g1,g2,g3,g4⟩:=ih m (M++[m]) (by omega);have hMM:∀x∈M,x∈gN l f m (M++[m]):=λx hx=>g1 x (by simp[hx]);obtain⟨h1,h2,h3,h4⟩:=ihL hL' (gN l f m (M++[m])) (Nat.lt_of_le_of_lt (Ob hMM) hM);refine⟨λx hx=>h1 x (hMM x hx),λx hx=>?_,λx hx=>?_,λx hx hxM y hy=>?_⟩
     ·rcases h2 x hx with h|⟨k,hk,hr⟩
      ·rcases g2 x h with h|h
       ·rcases List.mem_append.1 h with h|h
        ·exact .inl h
        ·simp at h;exact .inr ⟨m,by simp,.inl h⟩
       ·exact .inr ⟨m,by simp,.inr h⟩
      ·exact .inr ⟨k,by simp[hk],hr⟩
     ·rcases List.mem_cons.1 hx with rfl|hx
      ·exact h1 _ (g1 _ (by simp))
      ·exact h3 x hx
     ·by_cases hx2:x∈gN l f m (M++[m])
      ·by_cases hxm:x=m
       ·subst hxm;exact h1 y (g3 y hy)
       ·exact h1 y (g4 x hx2 (by simp[hxM,hxm]) y hy)
      ·exact h4 x hx hx2 y hy
  obtain⟨h1,h2,h3,h4⟩:=key (aX l n) (λm hm=>mP hm) M hM;refine⟨h1,λx hx=>(h2 x hx).imp id λ⟨m,hm,hr⟩=>?_,h3,h4⟩;rcases hr with rfl|hr
  ·exact .one hm
  ·exact .next hm hr
theorem Hf{l:List Ed}{f:Nat}{M:List Nm}{m:Nm}(hm:m∈bC l)(hM:mu l M<f+1):∀x∈M,x∈jW l f M m:=by
 intro x hx;unfold jW;by_cases h:m∈M
 ·rw[if_pos h];exact hx
 ·rw[if_neg h];have:=Ig hm h;exact(Bb l f m (M++[m]) (by omega)).1 x (by simp[hx])
theorem DD(l:List Ed):∀(f:Nat) (n:Nm) (M:List Nm),M.Nodup->(gN l f n M).Nodup:=by
 intro f;induction f with
 |zero=>intro n M h;exact h
 |succ f ih=>
  intro n M h;rw[oJ];generalize aX l n=L;induction L generalizing M with
  |nil=>exact h
  |cons m L ihL=>
   simp only[List.foldl_cons];refine ihL _ ?_;unfold jW;split
   ·exact h
   ·rename_i hn;refine ih _ _ (List.nodup_append.2 ⟨h,by simp,?_⟩);intro a ha b hb;simp at hb;subst hb;intro e;subst e;exact hn ha
def bZ(l:List Ed)(n:Nm):List Nm:=gN l (mu l []+1) n []
theorem jB{l:List Ed}{n x:Nm}:x∈bZ l n↔lV l n x:=by
 obtain⟨_,h2,h3,h4⟩:=Bb l (mu l []+1) n [] (Nat.lt_succ_self _);constructor
 ·intro h;rcases h2 x h with h|h
  ·cases h
  ·exact h
 ·intro h;have key:∀a b,lV l a b->(∀y∈aX l a,y∈bZ l n)->b∈bZ l n:=by
   intro a b hr;induction hr with
   |one h=>intro hc;exact hc _ h
   |next h _ ih=>intro hc;exact ih λy hy=>h4 _ (hc _ h) (by simp) y hy
  exact key n x h h3
theorem DE(l:List Ed)(n:Nm):(bZ l n).Nodup:=DD _ _ _ _ (by simp)
section
attribute[local simp] bA bW aQ aZ
def mG{α:Type}(p:α->Bool)(l:List α):Int:=match l.findIdx? p with|some i=>i|none=> -1
theorem kW{α:Type}{p:α->Bool}{l:List α}{i:Nat}(h:l.findIdx? p=some i):mG p l=i:=by simp[mG,h]
theorem mQ{α:Type}{p:α->Bool}{l:List α}(h:l.findIdx? p=none):mG p l= -1:=by simp[mG,h]
theorem sJ{α:Type}{p:α->Bool}{l:List α}:decide (0<=mG p l)=l.any p:=by
 unfold mG;split
 ·rename_i i hi;obtain⟨h1,h2,_⟩:=List.findIdx?_eq_some_iff_getElem.1 hi;have:l.any p=true:=OM h1 h2;rw[this];simp
 ·rename_i hi;rw[List.findIdx?_eq_none_iff]at hi;have:l.any p=false:=by rw[List.any_eq_false];intro x hx;rw[hi x hx];simp
  rw[this];simp
theorem wH{α:Type}{p:α->Bool}{l:List α}:0<=mG p l↔l.any p=true:=by
 rw[<-sJ];simp
theorem Hg(l:List Ed)(p:Ed->Bool)(g:FuncId)(cs:List DV)(hg:∀x∈l,Ok Tryz.prog g (x.d::cs) ⟨.d (.bool (p x)),true⟩):Ok Tryz.prog 190 [bT l,.fn g cs] ⟨.d (aT (mG p l)),true⟩:=by
 refine bE Tryz.func190 rfl Tryz.ntmps190 Tryz.results190 λw0 X hp=>?_;refine eG.len (t:=0) rfl λhlen=>?_;simp at hlen;refine aA ?_;simp;refine aB ?_;refine aA ?_;simp;refine aF ?_;refine aJ (ι:=Nat) (λi=>aU [(0,.d (bT l)),(1,.d (.fn g cs)),(7,.d (aT l.length)),(8,.d (aT i))]) (λi=>aL []) (λi=>i<=l.length/\AY p l i) (λi=>l.length-i) 0 (aC hp [0,1,7,8] []) (⟨Nat.zero_le _,AY.zero⟩) λi hi2=>?_;refine aA ?_;simp;refine aB ?_;refine aD ?_;simp;refine⟨λh2=>?_,λh2=>?_⟩
 ·refine aH ?_;simp;refine aB ?_;refine aF ?_;refine aA ?_;simp;refine aS hT hW (λ|16=>some<| .plain ⟨.d (.bool (p l[i])),true⟩|_=>none) ?_;simp[h2];refine⟨hg l[i] (List.getElem_mem h2),?_⟩;refine aD ?_;simp;refine⟨λh4=>?_,λh4=>?_⟩
  ·refine aA ?_;simp;refine aN ?_;simp[kW (hi2.2.found h2 h4)]
  ·refine aH ?_;simp;refine aG ?_;simp;refine⟨by omega,?_⟩;refine aI (i+1) (aC hp [0,1,7,8] []) ?_ ?_
   ·exact⟨h2,hi2.2.succ h2 h4⟩
   ·omega
 ·refine aO ?_;simp;refine aA ?_;simp;refine aN ?_;simp[mQ (hi2.2.none (by omega))]
theorem Bc(l:List Nm)(p:Nm->Bool)(g:FuncId)(cs:List DV)(hg:∀x∈l,Ok Tryz.prog g (x.d::cs) ⟨.d (.bool (p x)),true⟩):Ok Tryz.prog 192 [bY l,.fn g cs] ⟨.d (aT (mG p l)),true⟩:=by
 refine bE Tryz.func192 rfl Tryz.ntmps192 Tryz.results192 λw0 X hp=>?_;refine eG.len (t:=0) rfl λhlen=>?_;simp at hlen;refine aA ?_;simp;refine aB ?_;refine aA ?_;simp;refine aF ?_;refine aJ (ι:=Nat) (λi=>aU [(0,.d (bY l)),(1,.d (.fn g cs)),(7,.d (aT l.length)),(8,.d (aT i))]) (λi=>aL []) (λi=>i<=l.length/\AY p l i) (λi=>l.length-i) 0 (aC hp [0,1,7,8] []) (⟨Nat.zero_le _,AY.zero⟩) λi hi2=>?_;refine aA ?_;simp;refine aB ?_;refine aD ?_;simp;refine⟨λh2=>?_,λh2=>?_⟩
 ·refine aH ?_;simp;refine aB ?_;refine aF ?_;refine aA ?_;simp;refine aS hT hW (λ|16=>some<| .plain ⟨.d (.bool (p l[i])),true⟩|_=>none) ?_;simp[h2];refine⟨hg l[i] (List.getElem_mem h2),?_⟩;refine aD ?_;simp;refine⟨λh4=>?_,λh4=>?_⟩
  ·refine aA ?_;simp;refine aN ?_;simp[kW (hi2.2.found h2 h4)]
  ·refine aH ?_;simp;refine aG ?_;simp;refine⟨by omega,?_⟩;refine aI (i+1) (aC hp [0,1,7,8] []) ?_ ?_
   ·exact⟨h2,hi2.2.succ h2 h4⟩
   ·omega
 ·refine aO ?_;simp;refine aA ?_;simp;refine aN ?_;simp[mQ (hi2.2.none (by omega))]
theorem wI(l:List Nm)(p:Nm->Bool)(g:FuncId)(cs:List DV)(hg:∀x∈l,Ok Tryz.prog g (x.d::cs) ⟨.d (.bool (p x)),true⟩):Ok Tryz.prog 115 [bY l,.fn g cs] ⟨.d (.bool (l.any p)),true⟩:=by
 refine bE Tryz.func115 rfl Tryz.ntmps115 Tryz.results115 λw0 X hp=>?_;refine aA ?_;simp;refine aS hT hW (λ|7=>some<| .plain ⟨.d (aT (mG p l)),true⟩|_=>none) ?_;simp;refine⟨Bc l p g cs hg,?_⟩;refine aN ?_;simp[<-sJ]
theorem DF(l:List Nm)(n:Nm):Ok Tryz.prog 217 [bY l,n.d] ⟨.d (aT (mG (λx=>decide (n=x)) l)),true⟩:=by
 refine bE Tryz.func217 rfl Tryz.ntmps217 Tryz.results217 λw0 X hp=>?_;refine eG.len (t:=0) rfl λhlen=>?_;simp at hlen;refine aA ?_;simp;refine aB ?_;refine aA ?_;simp;refine aF ?_;refine aJ (ι:=Nat) (λi=>aU [(0,.d (bY l)),(3,.bx 3 0),(7,.d (aT l.length)),(8,.d (aT i))]) (λi=>aL [(3,.box false [.d (aT n.who),.d (aT n.seq)])]) (λi=>i<=l.length/\AY (λx=>decide (n=x)) l i) (λi=>l.length-i) 0 (aC hp [0,3,7,8] [(3,3)]) (⟨Nat.zero_le _,AY.zero⟩) λi hi2=>?_;refine aA ?_;simp;refine aB ?_;refine aD ?_;simp;refine⟨λh2=>?_,λh2=>?_⟩
 ·refine aH ?_;simp;refine aB ?_;refine aF ?_;refine aA ?_;simp;refine aB ?_;refine bI [] [] (λ_=>none) ?_;simp[h2];refine aD ?_;simp;refine⟨λh4=>?_,λh4=>?_⟩
  ·refine aA ?_;simp;refine aN ?_;simp[kW (hi2.2.found h2 (by simpa using h4))]
  ·refine aH ?_;simp;refine aG ?_;simp;refine⟨by omega,?_⟩;refine aI (i+1) (aC hp [0,3,7,8] [(3,3)]) ?_ ?_
   ·exact⟨h2,hi2.2.succ h2 (by simpa using h4)⟩
   ·omega
 ·refine aO ?_;simp;refine aA ?_;simp;refine aN ?_;simp[mQ (hi2.2.none (by omega))]
theorem Ih(l:List Nm)(n:Nm):Ok Tryz.prog 146 [bY l,n.d] ⟨.d (.bool (decide (n∈l))),true⟩:=by
 refine bE Tryz.func146 rfl Tryz.ntmps146 Tryz.results146 λw0 X hp=>?_;refine aA ?_;simp;refine aS hT hW (λ|7=>some<| .plain ⟨.d (aT (mG (λx=>decide (n=x)) l)),true⟩|_=>none) ?_;simp;refine⟨DF l n,?_⟩;refine aN ?_;simp[wH]
theorem Lz(e:Ed)(n:Nm):Ok Tryz.prog 191 [e.d,.ro [aT n.who,aT n.seq]] ⟨.d (.bool (decide (e.name=n))),true⟩:=by
 refine bE Tryz.func191 rfl Tryz.ntmps191 Tryz.results191 λw0 X hp=>?_;refine aA ?_;simp;refine aA ?_;simp;refine aN ?_;simp
theorem jX(l:List Ed)(n:Nm):Ok Tryz.prog 114 [bT l,n.d] ⟨.d (aT (bM l n)),true⟩:=by
 refine bE Tryz.func114 rfl Tryz.ntmps114 Tryz.results114 λw0 X hp=>?_;refine aA ?_;simp;refine aS hT hW (λ|7=>some<| .plain ⟨.d (aT (bM l n)),true⟩|_=>none) ?_;simp;refine⟨Hg l (λe=>decide (e.name=n)) _ _ λe _=>Lz e n,?_⟩;refine aN ?_;simp
end
section
attribute[local simp] bA bW aQ aZ
theorem Bd{m:Nm}:∀{M:List Nm} {i:Nat},iK (.agg [.int .i64 m.who,.int .i64 m.seq]) (List.map Nm.d M) i=some ((M.findIdx? λx=>decide (m=x)).map (·+i))
 |[],i=>by simp[iK]
 |x::M,i=>by
  have ih:=Bd (m:=m) (M:=M) (i:=i+1);simp only[List.map_cons,iK];have e:mX (.agg [.int .i64 m.who,.int .i64 m.seq]) (Nm.d x)=some (decide (m=x)):=by
   cases m;cases x;simp[mX,Nm.d,eX,Ga]
  rw[e,List.findIdx?_cons];cases q:decide (m=x)with
  |true=>simp
  |false=>
   simp only[ih,Bool.false_eq_true,if_false];cases(M.findIdx? λx=>decide (m=x))with
   |none=>rfl
   |some j=>simp;omega
theorem CD{M:List Nm}{m:Nm}(h:m∉M):(M.findIdx? λx=>decide (m=x))=none:=by
 rw[List.findIdx?_eq_none_iff];intro x hx;simp;intro e;subst e;exact h hx
theorem Jq{M:List Nm}{m:Nm}(h:m∈M):∃j,(M.findIdx? λx=>decide (m=x))=some j/\j<M.length:=by
 cases q:(M.findIdx? λx=>decide (m=x))with
 |none=>rw[List.findIdx?_eq_none_iff]at q;have:=q m h;simp at this
 |some j=>exact⟨j,rfl,(List.findIdx?_eq_some_iff_getElem.1 q).1⟩
theorem EZ(M:List Nm){H:dU}{x:LV}{m:Nm}(h:uD H x=some (List.map Nm.d M,List.map (λ_=>.bool true) M)):
 dZ T H 191 x (.d (.agg [.int .i64 m.who,.int .i64 m.seq])) false=⟨.d (.bool (decide (m∈M))),True,[]⟩:=by
 unfold dZ;simp only[Py,h,Bd];by_cases hm:m∈M
 ·obtain⟨j,hj,hl⟩:=Jq hm;simp[hj,hl,hm,kQ,bH,eE]
 ·simp[CD hm,hm,kQ,bH,eE,dH,pU,TK.isNone,TK.agg]
theorem Jr(M:List Nm){H:dU}{m:Nm}:dZ T H 191 (.d (.mp (List.map Nm.d M) (List.map (λ_=>.bool true) M))) (.d (.agg [.int .i64 m.who,.int .i64 m.seq])) false=⟨.d (.bool (decide (m∈M))),True,[]⟩:=EZ M rfl
theorem ND(M:List Nm){H:dU}{id:Nat}{m:Nm}(hm:m∉M)(h:H id=.map false (List.map Nm.d M) (List.map (λ_=>.bool true) M)):
 cH T H 191 (.mp id) (.d (.agg [.int .i64 m.who,.int .i64 m.seq])) (.d (.bool true))=⟨.junk,True,[(id,.map false (List.map Nm.d (M++[m])) (List.map (λ_=>.bool true) (M++[m])))]⟩:=by
 unfold cH;simp only[Py,h,Bd,CD hm];simp[kQ,bH,eE,Nm.d]
theorem xM{l:List Ed}{n:Nm}(h:¬bM l n<0):∃i,∃hi:i<l.length,find? l n=some i/\bM l n=i/\aX l n=l[i].needs:=by
 unfold bM at h;split at h
 ·rename_i i hi;have hl:=(List.findIdx?_eq_some_iff_getElem.1 (show l.findIdx? _=some i from hi)).1;exact⟨i,hl,hi,by simp[bM,hi],by simp[aX,hi,hl]⟩
 ·simp at h
theorem Js{l:List Ed}{n:Nm}(h:bM l n<0):aX l n=[]:=by
 unfold bM at h;split at h
 ·rename_i i hi;omega
 ·rename_i hi;simp[aX,hi]
def lY(l:List Ed)(M:List Nm):List (Nat×aV):=[(1,.box false [.d (bT l)]),(2,.box false [.mp 100]),(3,.box false [.fn 211 [.bx 1 0,.bx 2 0,.bx 3 0]]),(100,.map false (List.map Nm.d M) (List.map (λ_=>.bool true) M))]
theorem Hh(l:List Ed)(f:Nat)(n:Nm)(M:List Nm)(hf:mu l M<f+1)(ih:∀m M',mu l M'<f->BO Tryz.prog 211 [.d m.d,.bx 1 0,.bx 2 0,.bx 3 0] (lY l M') (lY l (gN l f m M')) (.tup [])):BO Tryz.prog 211 [.d n.d,.bx 1 0,.bx 2 0,.bx 3 0] (lY l M) (lY l (gN l (f+1) n M)) (.tup []):=by
 unfold lY at*;refine OO Tryz.func211 rfl Tryz.ntmps211 Tryz.results211 λw0 X hp=>?_;refine aA ?_;simp;refine aS hT hW (λ|10=>some<| .plain ⟨.d (aT (bM l n)),true⟩|_=>none) ?_;simp;refine⟨jX l n,?_⟩;refine aB ?_;refine aA ?_;simp;refine aD ?_;simp;refine⟨λh2=>?_,λh2=>?_⟩
 ·refine aN ?_;simp;exact aC hp [] [(1,1),(2,2),(3,3),(100,100)] (hH:=by simp[oJ,Js h2])
 ·refine aH ?_;simp;refine aB ?_;obtain⟨i0,hi0,hfi,hfe,hne⟩:=xM (by simpa using h2);refine aG ?_;simp[hfe,hi0];refine aF ?_;refine aJ (ι:=Nat×List Nm) (λ⟨i,acc⟩=>aU [(1,.bx 1 0),(2,.bx 2 0),(3,.bx 3 0),(17,.d (bY (aX l n))),(18,.d (aT (aX l n).length)),(19,.d (aT i))]) (λ⟨i,acc⟩=>aL [(1,.box false [.d (bT l)]),(2,.box false [.mp 100]),(3,.box false [.fn 211 [.bx 1 0,.bx 2 0,.bx 3 0]]),(100,.map false (List.map Nm.d acc) (List.map (λ_=>.bool true) acc))]) (λ⟨i,acc⟩=>i<=(aX l n).length/\acc=((aX l n).take i).foldl (jW l f) M/\mu l acc<f+1) (λ⟨i,acc⟩=>(aX l n).length-i) (0,M) (aC hp [1,2,3,17,18,19] [(1,1),(2,2),(3,3),(100,100)] (by simp[hne])) (by simp[hf]) λ⟨i,acc⟩ hi4=>?_;refine eG.len (t:=17) rfl λhlen=>?_;simp at hlen;refine aA ?_;simp;refine aB ?_;refine aD ?_;simp;refine⟨λh4=>?_,λh4=>?_⟩
  ·refine aH ?_;simp;refine aB ?_;refine aF ?_;refine aA ?_;simp[h4];refine aA ?_;simp[EZ acc];refine aD ?_;simp;refine⟨λh6=>?_,λh6=>?_⟩
   ·refine aA ?_;simp[ND acc h6];refine eG.ro hT hW (λ|31=>some (.gen ⟨[(1,1),(2,2),(3,3),(100,100)],[],[],lY l (gN l f (aX l n)[i] (acc++[(aX l n)[i]])),.tup []⟩)|_=>none) ?_;simp[lY];have hmem:(aX l n)[i]∈bC l:=mP (List.getElem_mem h4);have hI:=ih (aX l n)[i] (acc++[(aX l n)[i]]) (by have:=Ig hmem h6;have h3:mu l acc<f+1:=hi4.2.2;omega);refine⟨by simpa using hI,?_⟩;refine aG ?_;simp;refine⟨by omega,?_⟩;refine aI (i+1,gN l f (aX l n)[i] (acc++[(aX l n)[i]])) (aC hp [1,2,3,17,18,19] [(1,1),(2,2),(3,3),(100,100)]) ?_ ?_
    ·refine⟨h4,?_,?_⟩
     ·rw[List.take_succ_eq_append_getElem h4,List.foldl_append,<-hi4.2.1];simp[jW,h6]
     ·have hmem:(aX l n)[i]∈bC l:=mP (List.getElem_mem h4);have:=Hf (f:=f) hmem hi4.2.2;simp only[jW,if_neg h6]at this;exact Nat.lt_of_le_of_lt (Ob this) hi4.2.2
    ·omega
   ·refine aH ?_;simp;refine aG ?_;simp;refine⟨by omega,?_⟩;refine aI (i+1,acc) (aC hp [1,2,3,17,18,19] [(1,1),(2,2),(3,3),(100,100)]) ?_ ?_
    ·refine⟨h4,?_,hi4.2.2⟩;rw[List.take_succ_eq_append_getElem h4,List.foldl_append,<-hi4.2.1];simp[jW,h6]
    ·omega
  ·refine aO ?_;simp;have q:i=(aX l n).length:=by omega
   have e:=hi4.2.1;rw[q,List.take_length]at e;exact aC hp [] [(1,1),(2,2),(3,3),(100,100)] (hH:=by simp[oJ,<-e])
theorem Fa(l:List Ed):∀(f:Nat) (n:Nm) (M:List Nm),mu l M<f->BO Tryz.prog 211 [.d n.d,.bx 1 0,.bx 2 0,.bx 3 0] (lY l M) (lY l (gN l f n M)) (.tup [])
 |0,_,_,h=>absurd h (Nat.not_lt_zero _)
 |f+1,n,M,h=>Hh l f n M h λm M' h'=>Fa l f m M' h'
theorem Fb(l:List Ed)(n:Nm):Ok Tryz.prog 141 [bT l,n.d] ⟨.d (.mp (List.map Nm.d (bZ l n)) (List.map (λ_=>.bool true) (bZ l n))),false⟩:=by
 refine bE Tryz.func141 rfl Tryz.ntmps141 Tryz.results141 λw0 X hp=>?_;refine aA ?_;simp;refine aA ?_;simp;refine aA ?_;simp;refine aA ?_;simp;refine aS hT hW (λ|11=>some (.gen ⟨[(2,1),(5,2),(6,3),(7,100)],[],[],lY l (bZ l n),.tup []⟩)|_=>none) ?_;simp[lY];refine⟨by simpa [lY,bZ]using Fa l (mu l []+1) n [] (Nat.lt_succ_self _),?_⟩;refine aA ?_;simp;refine aN ?_;simp
theorem nI(l:List Ed)(a b:Nm):Ok Tryz.prog 117 [bT l,a.d,b.d] ⟨.d (.bool (decide (a∈bZ l b))),true⟩:=by
 refine bE Tryz.func117 rfl Tryz.ntmps117 Tryz.results117 λw0 X hp=>?_;refine aA ?_;simp;refine aB ?_;refine bI [[],[],[],[9]] [[],[],[9]] (λ|9=>some<| .plain ⟨.d (.mp (List.map Nm.d (bZ l b)) (List.map (λ_=>.bool true) (bZ l b))),false⟩|_=>none) ?_;simp[Jr];refine⟨Fb l b,?_⟩;refine aN ?_;simp
end
end Go.Eng
namespace Go.Proofs
set_option maxRecDepth 100000 in
theorem Tryz.bytealg_CompareString(a b:ByteArray)(w:World):
 Calls Tryz.prog 262 #[.string a,.string b] w λe w'=>e=.returned (.int .i64 (Lib.compareBytes a.data.toList b.data.toList))/\w'=w:=by
 go_enter Tryz.func262,Tryz.ntmps262
 go_wp2
 rw[run_callFunc_extern Tryz.func313 (by kernel_rfl) (by kernel_rfl) (by kernel_rfl) (e:=Extern.BytealgCompare.compare) (by kernel_rfl),Lib.run_compareString];simp only[Result.andThen];rw[Oper.upon_value]
 go_wp2
 go_ret
 exact⟨rfl,rfl⟩
end Go.Proofs
namespace Go.Eng
open Go.Proofs Go.RowKit
def Hi(a b:dO):Int:=Lib.compareBytes a b
theorem Ii:∀(a b:dO),decide (0<=Hi a b)= !Op.bytesLess a b
 |[],[]=>rfl
 |[],_::_=>rfl
 |_::_,[]=>rfl
 |a::xs,b::ys=>by
  have ih:=Ii xs ys;unfold Hi at*;simp only[Lib.compareBytes,Op.bytesLess];by_cases h1:a<b
  ·simp[h1]
  ·by_cases h2:b<a
   ·have:¬a=b:=λe=>by subst e;exact h1 h2
    simp[h1,h2,this]
   ·have:a=b:=by
     have h1':¬a.toNat<b.toNat:=h1;have h2':¬b.toNat<a.toNat:=h2;exact UInt8.toNat_inj.1 (by omega)
    subst this;simp[h1,ih]
theorem xN(a b:dO):Ok Tryz.prog 262 [.str a,.str b] ⟨.d (aT (Hi a b)),true⟩:=by
 refine⟨⟨_,Tryz.func262,by kernel_rfl,rfl⟩,λw X vs hX hr=>?_⟩
 match vs,hr.1 with
 |[u,v],_=>
  have h1:=hr.2 0 _ _ rfl rfl;have h2:=hr.2 1 _ _ rfl rfl;cases h1;cases h2;refine(Tryz.bytealg_CompareString _ _ w).mono ?_;rintro e w' ⟨rfl,rfl⟩;exact⟨_,rfl,BP.refl _ _,none,.int _ _⟩
def nJ{α:Type}(lt:α->α->Bool):List α->Bool
 |a::b::r=>lt a b&&nJ lt (b::r)
 |_=>true
def sK{α:Type}(lt:α->α->Bool)(l:List α)(i:Nat):Prop:=∀(j:Nat) (h:j+1<l.length),j+1<i->lt l[j] l[j+1]=true
theorem Be{α:Type}{lt:α->α->Bool}:∀{l:List α},nJ lt l=true↔∀(j:Nat) (h:j+1<l.length),lt l[j] l[j+1]=true
 |[]=>by simp[nJ]
 |[_]=>by simp[nJ]
 |a::b::r=>by
  simp only[nJ,Bool.and_eq_true];rw[Be (l:=b::r)];constructor
  ·rintro⟨h1,h2⟩ j hj;cases j with
   |zero=>exact h1
   |succ j=>exact h2 j (by simpa using hj)
  ·intro h;exact⟨h 0 (by simp),λj hj=>h (j+1) (by simpa using hj)⟩
theorem fW{α:Type}{lt:α->α->Bool}{l:List α}{i:Nat}(h:i<=1):sK lt l i:=λj _ hji=>by omega
theorem sK.succ{α:Type}{lt:α->α->Bool}{l:List α}{i:Nat}(h:sK lt l (i+1))(hi:i+1<l.length)(hp:lt l[i] l[i+1]=true):sK lt l (i+2):=λj hj hji=>by
 by_cases e:j=i
 ·subst e;exact hp
 ·exact h j hj (by omega)
theorem sK.done{α:Type}{lt:α->α->Bool}{l:List α}{i:Nat}(h:sK lt l i)(hi:l.length<=i):nJ lt l=true:=Be.2 λj hj=>h j hj (by omega)
theorem uY{α:Type}{lt:α->α->Bool}{l:List α}{i:Nat}(hi:i+1<l.length)(hp:lt l[i] l[i+1]=false):nJ lt l=false:=by
 cases q:nJ lt l with
 |false=>rfl
 |true=>have:=Be.1 q i hi;rw[hp]at this;cases this
def fX(a b:dO):Bool:=Op.bytesLess a b
def mH(l:List dO):Bool:=l.all (λs=>decide (s≠[])&&decide (s.length<=16))&&decide l.Nodup
def sL(l:List dO)(i:Nat)(h:i<l.length):Bool:=decide (l[i]≠[])&&decide (l[i].length<=16)&&decide (l[i]∉l.take i)
theorem oK{l:List dO}:mH l=true↔∀(i:Nat) (h:i<l.length),sL l i h=true:=by
 unfold mH sL;simp only[Bool.and_eq_true,List.all_eq_true,decide_eq_true_eq];constructor
 ·rintro⟨h1,h2⟩ i hi;refine⟨h1 _ (List.getElem_mem hi),λhm=>?_⟩;obtain⟨j,hj,e⟩:=List.getElem_of_mem hm;simp at hj e;exact List.pairwise_iff_getElem.1 h2 j i (by omega) hi (by omega) e
 ·intro h;refine⟨λx hx=>?_,?_⟩
  ·obtain⟨i,hi,rfl⟩:=List.getElem_of_mem hx;exact(h i hi).1
  ·refine List.pairwise_iff_getElem.2 λi j hi hj hij e=>?_;refine(h j hj).2 ?_;rw[<-e];exact List.mem_iff_getElem.2 ⟨i,by simp;omega,by simp⟩
def dA(e:Ed):Bool:=e.name.isName&&decide ((aP e).length<=24)&&nJ Nm.less e.needs&&nJ fX (e.puts.map Df.name)&&nJ fX e.drops&&e.needs.all Nm.isName&&mH (aP e)&&e.puts.all (λd=>decide (d.text.length<=1024))
def kX(l:List Ed)(i:Nat)(e:Ed):Int:=
 if dA e=false then 1 else if bM l e.name<i then 7 else if e.needs.any (λn=>decide (bM l n<0))=true then 6 else if e.name∈bZ l e.name then 13 else 0
def dW(l:List Ed):List Ed->Nat->Int×Int
 |[],i=>(i,0)
 |e::r,i=>if kX l i e=0 then dW l r (i+1)else(i,kX l i e)
def cT(l:List Ed):Int×Int:=if 64<l.length then(0,4)else dW l l 0
theorem sM{l:List Ed}{i:Nat}(h:i<l.length)(e:kX l i l[i]=0):dW l (l.drop i) i=dW l (l.drop (i+1)) (i+1):=by
 rw[List.drop_eq_getElem_cons h];simp[dW,e]
theorem dS{l:List Ed}{i:Nat}(h:i<l.length)(e:kX l i l[i]≠0):dW l (l.drop i) i=((i:Int),kX l i l[i]):=by
 rw[List.drop_eq_getElem_cons h];simp[dW,e]
theorem uK{l:List Ed}{i:Nat}(h:l.length<=i):dW l (l.drop i) i=((i:Int),0):=by
 rw[List.drop_eq_nil_of_le h];rfl
section
attribute[local simp] bA bW aQ aZ
theorem Hj(a b:dO):Ok Tryz.prog 187 [.str a,.str b] ⟨.d (aT (Hi a b)),true⟩:=by
 refine bE Tryz.func187 rfl Tryz.ntmps187 Tryz.results187 λw0 X hp=>?_;refine aA ?_;simp;refine aS hT hW (λ|7=>some<| .plain ⟨.d (aT (Hi a b)),true⟩|_=>none) ?_;simp;refine⟨xN a b,?_⟩;refine aN ?_;simp
theorem Fc(a:Int):Ok Tryz.prog 209 [aT a] ⟨.d (.bool false),true⟩:=by
 refine bE Tryz.func209 rfl Tryz.ntmps209 Tryz.results209 λw0 X hp=>?_;refine aA ?_;simp;refine aA ?_;simp;refine aN ?_;simp
def uC(a b:Int):Int:=if a<b then -1 else if a>b then 1 else 0
def xO(a b:Nm):Int:=if uC a.who b.who≠0 then uC a.who b.who else uC a.seq b.seq
theorem Ij(a b:Nm):decide (0<=xO a b)= !a.less b:=by
 unfold xO uC Nm.less;by_cases h1:a.who<b.who
 ·simp[h1]
 ·by_cases h2:a.who>b.who
  ·have:¬a.who=b.who:=(by omega);simp[h1,h2,this]
  ·have:a.who=b.who:=(by omega);by_cases h3:a.seq<b.seq
   ·simp[this,h3]
   ·by_cases h4:a.seq>b.seq<;>simp[this,h3,h4]
theorem LA(a b:Nm):0<=xO a b↔a.less b=false:=by
 have:=Ij a b;rw[Bool.eq_iff_iff]at this;simpa using this
theorem LB(a b:dO):0<=Hi a b↔Op.bytesLess a b=false:=by
 have:=Ii a b;rw[Bool.eq_iff_iff]at this;simpa using this
theorem Ik(a b:Int):Ok Tryz.prog 136 [aT a,aT b] ⟨.d (aT (uC a b)),true⟩:=by
 refine bE Tryz.func136 rfl Tryz.ntmps136 Tryz.results136 λw0 X hp=>?_;refine aA ?_;simp;refine aS hT hW (λ|8=>some<| .plain ⟨.d (.bool false),true⟩|_=>none) ?_;simp;refine⟨Fc a,?_⟩;refine aS hT hW (λ|10=>some<| .plain ⟨.d (.bool false),true⟩|_=>none) ?_;simp;refine⟨Fc b,?_⟩;refine aB ?_;refine aA ?_;simp;refine aD ?_;simp;refine aH ?_;simp;refine aB ?_;refine aA ?_;simp;refine aD ?_;simp;refine aH ?_;simp;refine aB ?_;refine aA ?_;simp;refine aD ?_;simp;refine⟨λh9=>?_,λh9=>?_⟩
 ·refine aA ?_;simp;refine aN ?_;simp[uC,h9]
 ·refine aH ?_;simp;refine aB ?_;refine aA ?_;simp;refine aD ?_;simp;refine⟨λh11=>?_,λh11=>?_⟩
  ·refine aA ?_;simp;refine aN ?_;have:¬a<b:=by omega
   simp[uC,this,h11]
  ·refine aH ?_;simp;refine aA ?_;simp;refine aN ?_;have h1:¬a<b:=by omega
   have h2:¬b<a:=(by omega);simp[uC,h1,h2]
def OP(l:List Int):Int:=match l.find? (λx=>decide (x≠0))with|some x=>x|none=>0
theorem Il:OP []=0:=rfl
theorem Bf(x:Int)(l:List Int):OP (x::l)=if x≠0 then x else OP l:=by
 unfold OP;by_cases h:x=0
 ·subst h;simp
 ·simp[h]
theorem OQ(l:List Int):Ok Tryz.prog 135 [.sl (l.map aT)] ⟨.d (aT (OP l)),true⟩:=by
 refine bE Tryz.func135 rfl Tryz.ntmps135 Tryz.results135 λw0 X hp=>?_;refine eG.len (t:=0) rfl λhlen=>?_;simp at hlen;refine aA ?_;simp;refine aA ?_;simp;refine aB ?_;refine aA ?_;simp;refine aF ?_;refine aJ (ι:=Nat) (λi=>aU [(3,.d (aT 0)),(6,.d (.sl (l.map aT))),(7,.d (aT l.length)),(8,.d (aT i))]) (λi=>aL []) (λi=>i<=l.length/\OP (l.drop i)=OP l) (λi=>l.length-i) 0 (aC hp [3,6,7,8] []) (by simp) λi hi3=>?_;refine aA ?_;simp;refine aB ?_;refine aD ?_;simp;refine⟨λh3=>?_,λh3=>?_⟩
 ·refine aH ?_;simp;refine aB ?_;refine aF ?_;refine aA ?_;simp[h3];refine aA ?_;simp;refine aD ?_;simp;refine⟨λh5=>?_,λh5=>?_⟩
  ·refine aA ?_;simp;refine aN ?_;have h:=hi3.2;rw[List.drop_eq_getElem_cons h3,Bf,if_pos (by simpa using h5)]at h;simp[<-h]
  ·refine aH ?_;simp;refine aG ?_;simp;refine⟨by omega,?_⟩;refine aI (i+1) (aC hp [3,6,7,8] []) ?_ ?_
   ·refine⟨h3,?_⟩;have h:=hi3.2;rw[List.drop_eq_getElem_cons h3,Bf,if_neg (by simpa using h5)]at h;exact h
   ·omega
 ·refine aO ?_;simp;refine aA ?_;simp;refine aN ?_;have h:=hi3.2;rw[List.drop_eq_nil_of_le (by omega),Il]at h;simp[<-h]
theorem Bg(a b:Nm):Ok Tryz.prog 62 [a.d,b.d] ⟨.d (aT (xO a b)),true⟩:=by
 refine bE Tryz.func62 rfl Tryz.ntmps62 Tryz.results62 λw0 X hp=>?_;refine aA ?_;simp;refine aB ?_;refine bI [[],[],[],[],[],[9],[9],[9],[9]] [[],[],[],[],[9],[],[],[],[],[14],[15],[16]] (λ|9=>some<| .plain ⟨.d (aT (uC a.who b.who)),true⟩|14=>some<| .plain ⟨.d (aT (uC a.seq b.seq)),true⟩|16=>some<| .plain ⟨.d (aT (xO a b)),true⟩|_=>none) ?_;simp;refine⟨⟨⟨⟨Ik _ _,Ik _ _⟩,rfl⟩,?_⟩,?_⟩
 ·have h:=OQ [uC a.who b.who,uC a.seq b.seq];simp only[Bf,Il]at h;have e:(if uC a.who b.who≠0 then uC a.who b.who else if uC a.seq b.seq≠0 then uC a.seq b.seq else 0)=xO a b:=by
   unfold xO;split
   ·rfl
   ·split
    ·rfl
    ·omega
  rw[e]at h;exact h
 refine aN ?_;simp
theorem zC(n:Nm):Ok Tryz.prog 184 [n.d] ⟨.d (.bool n.isName),true⟩:=by
 refine bE Tryz.func184 rfl Tryz.ntmps184 Tryz.results184 λw0 X hp=>?_;refine aA ?_;simp;refine aA ?_;simp;refine aN ?_;have h:(n.who<4)↔(n.who<=3):=by omega
 simp[Nm.isName,h]
theorem LC(l:List Nm):Ok Tryz.prog 185 [bY l,.fn 62 []] ⟨.d (.bool (nJ Nm.less l)),true⟩:=by
 refine bE Tryz.func185 rfl Tryz.ntmps185 Tryz.results185 λw0 X hp=>?_;refine eG.len (t:=0) rfl λhlen=>?_;simp at hlen;refine aA ?_;simp;refine aB ?_;refine aA ?_;simp;refine aF ?_;refine aJ (ι:=Nat) (λi=>aU [(0,.d (bY l)),(1,.d (.fn 62 [])),(7,.d (aT l.length)),(8,.d (aT i))]) (λi=>aL []) (λi=>i<=l.length/\sK Nm.less l i) (λi=>l.length-i) 0 (aC hp [0,1,7,8] []) (⟨Nat.zero_le _,fW (by omega)⟩) λi hi2=>?_;refine aA ?_;simp;refine aB ?_;refine aD ?_;simp;refine⟨λh2=>?_,λh2=>?_⟩
 ·refine aH ?_;simp;refine aB ?_;refine aF ?_;refine aA ?_;simp;refine aB ?_;rcases i with _|i
  ·refine bI [] [[],[],[],[],[],[],[],[],[],[],[],[],[],[24]] (λ_=>none) ?_;simp[Nat.zero_le];refine aD ?_;simp[Nat.zero_le];refine aH ?_;simp;refine aG ?_;simp;first|refine And.intro (by omega) ?_|skip
   refine aI 1 (aC hp [0,1,7,8] []) ?_ ?_
   ·exact⟨h2,fW (by omega)⟩
   ·omega
  ·refine bI [] [[],[],[],[],[],[],[],[],[],[],[],[],[],[24]] (λ|24=>some<| .plain ⟨.d (aT (xO (l.getD i default) (l.getD (i+1) default))),true⟩|_=>none) ?_;simp[h2,show i<l.length by omega];refine⟨⟨by omega,Bg _ _⟩,?_⟩;refine aD ?_;simp[LA];refine⟨λh4=>?_,λh4=>?_⟩
   ·refine aA ?_;simp;refine aN ?_;simp;exact uY h2 (by simpa using h4)
   ·refine aH ?_;simp;refine aG ?_;simp;first|refine And.intro (by omega) ?_|skip
    refine aI (i+2) (aC hp [0,1,7,8] [] (by simp[show(i:Int)+1+1=i+2 by omega])) ?_ ?_
    ·exact⟨h2,hi2.2.succ h2 h4⟩
    ·omega
 ·refine aO ?_;simp;refine aA ?_;simp;refine aN ?_;simp;exact hi2.2.done (by omega)
theorem CE(l:List dO):Ok Tryz.prog 186 [cQ l,.fn 187 []] ⟨.d (.bool (nJ fX l)),true⟩:=by
 refine bE Tryz.func186 rfl Tryz.ntmps186 Tryz.results186 λw0 X hp=>?_;refine eG.len (t:=0) rfl λhlen=>?_;simp at hlen;refine aA ?_;simp;refine aB ?_;refine aA ?_;simp;refine aF ?_;refine aJ (ι:=Nat) (λi=>aU [(0,.d (cQ l)),(1,.d (.fn 187 [])),(7,.d (aT l.length)),(8,.d (aT i))]) (λi=>aL []) (λi=>i<=l.length/\sK fX l i) (λi=>l.length-i) 0 (aC hp [0,1,7,8] []) (⟨Nat.zero_le _,fW (by omega)⟩) λi hi2=>?_;refine aA ?_;simp;refine aB ?_;refine aD ?_;simp;refine⟨λh2=>?_,λh2=>?_⟩
 ·refine aH ?_;simp;refine aB ?_;refine aF ?_;refine aA ?_;simp;refine aB ?_;rcases i with _|i
  ·refine bI [] [[],[],[],[],[],[],[],[],[],[],[],[],[],[24]] (λ_=>none) ?_;simp[Nat.zero_le];refine aD ?_;simp[Nat.zero_le];refine aH ?_;simp;refine aG ?_;simp;first|refine And.intro (by omega) ?_|skip
   refine aI 1 (aC hp [0,1,7,8] []) ?_ ?_
   ·exact⟨h2,fW (by omega)⟩
   ·omega
  ·refine bI [] [[],[],[],[],[],[],[],[],[],[],[],[],[],[24]] (λ|24=>some<| .plain ⟨.d (aT (Hi (l.getD i default) (l.getD (i+1) default))),true⟩|_=>none) ?_;simp[h2,show i<l.length by omega];refine⟨⟨by omega,Hj _ _⟩,?_⟩;refine aD ?_;simp[LB];refine⟨λh4=>?_,λh4=>?_⟩
   ·refine aA ?_;simp;refine aN ?_;simp;exact uY h2 (by simpa [fX]using h4)
   ·refine aH ?_;simp;refine aG ?_;simp;first|refine And.intro (by omega) ?_|skip
    refine aI (i+2) (aC hp [0,1,7,8] [] (by simp[show(i:Int)+1+1=i+2 by omega])) ?_ ?_
    ·exact⟨h2,hi2.2.succ h2 h4⟩
    ·omega
 ·refine aO ?_;simp;refine aA ?_;simp;refine aN ?_;simp;exact hi2.2.done (by omega)
end
section
attribute[local simp] bA bW aQ aZ
theorem sN(e:Ed)(h1:e.puts.length<=1100000)(h2:e.drops.length<=1100000):Ok Tryz.prog 118 [e.d] ⟨.d (cQ (aP e)),true⟩:=by
 refine bE Tryz.func118 rfl Tryz.ntmps118 Tryz.results118 λw0 X hp=>?_;refine aA ?_;simp;refine aA ?_;simp;refine aB ?_;refine aA ?_;simp;refine aF ?_;refine aJ (ι:=Nat×List dO) (λ⟨i,acc⟩=>aU [(1,.bx 1 0),(3,.ow 3 0 acc.length),(7,.d (jA e.puts)),(8,.d (aT e.puts.length)),(9,.d (aT i))]) (λ⟨i,acc⟩=>aL [(3,.row false 1 (acc.map .str)),(1,.box false ((aK e.d).map .d))]) (λ⟨i,acc⟩=>i<=e.puts.length/\acc.length=i/\acc=(e.puts.map Df.name).take i) (λ⟨i,acc⟩=>e.puts.length-i) (0,[]) (aC hp [1,3,7,8,9] [(3,3),(1,1)]) (by simp) λ⟨i,acc⟩ hi3=>?_;refine aA ?_;simp;refine aB ?_;refine aD ?_;simp;refine⟨λh3=>?_,λh3=>?_⟩
 ·refine aH ?_;simp;refine aB ?_;refine aF ?_;refine aA ?_;simp[h3];refine aG ?_;simp;refine⟨by have:=hi3.2.1;omega,?_⟩;refine aG ?_;simp;refine⟨by omega,?_⟩;refine aI (i+1,acc++[e.puts[i].name]) (aC hp [1,3,7,8,9] [(17,3),(1,1)]) ?_ ?_
  ·exact⟨h3,by simp[hi3.2.1],by rw[gL h3,<-hi3.2.2]⟩
  ·omega
 ·refine aO ?_;simp;refine aA ?_;simp;refine⟨by have:=hi3.2.1;omega,?_⟩;refine aN ?_;have q:i=e.puts.length:=by omega
  have:=hi3.2.2;rw[q]at this;have q2:∀(x y:List DV) (n:Nat),n=x.length+y.length->List.take n (x++y)=x++y:=λx y n h=>List.take_of_length_le (by simp[h]);simp[this,aP,q2];rintro x (⟨a,_,rfl⟩|⟨a,_,rfl⟩)<;>simp
theorem BW(l:List dO)(n:dO):Ok Tryz.prog 155 [cQ l,.str n] ⟨.d (aT (mG (λx=>decide (n=x)) l)),true⟩:=by
 refine bE Tryz.func155 rfl Tryz.ntmps155 Tryz.results155 λw0 X hp=>?_;refine eG.len (t:=0) rfl λhlen=>?_;simp at hlen;refine aA ?_;simp;refine aB ?_;refine aA ?_;simp;refine aF ?_;refine aJ (ι:=Nat) (λi=>aU [(0,.d (cQ l)),(1,.d (.str n)),(7,.d (aT l.length)),(8,.d (aT i))]) (λi=>aL []) (λi=>i<=l.length/\AY (λx=>decide (n=x)) l i) (λi=>l.length-i) 0 (aC hp [0,1,7,8] []) (⟨Nat.zero_le _,AY.zero⟩) λi hi2=>?_;refine aA ?_;simp;refine aB ?_;refine aD ?_;simp;refine⟨λh2=>?_,λh2=>?_⟩
 ·refine aH ?_;simp;refine aB ?_;refine aF ?_;refine aA ?_;simp;refine aA ?_;simp[h2];refine aD ?_;simp;refine⟨λh4=>?_,λh4=>?_⟩
  ·refine aA ?_;simp;refine aN ?_;simp[kW (hi2.2.found h2 (by simpa using h4))]
  ·refine aH ?_;simp;refine aG ?_;simp;refine⟨by omega,?_⟩;refine aI (i+1) (aC hp [0,1,7,8] []) ?_ ?_
   ·exact⟨h2,hi2.2.succ h2 (by simpa using h4)⟩
   ·omega
 ·refine aO ?_;simp;refine aA ?_;simp;refine aN ?_;simp[mQ (hi2.2.none (by omega))]
theorem Bh(l:List dO)(n:dO):Ok Tryz.prog 121 [cQ l,.str n] ⟨.d (.bool (decide (n∈l))),true⟩:=by
 refine bE Tryz.func121 rfl Tryz.ntmps121 Tryz.results121 λw0 X hp=>?_;refine aA ?_;simp;refine aS hT hW (λ|7=>some<| .plain ⟨.d (aT (mG (λx=>decide (n=x)) l)),true⟩|_=>none) ?_;simp;refine⟨BW l n,?_⟩;refine aN ?_;simp[wH]
theorem Hk(l:List Df)(p:Df->Bool)(g:FuncId)(cs:List DV)(hg:∀x∈l,Ok Tryz.prog g (x.d::cs) ⟨.d (.bool (p x)),true⟩):Ok Tryz.prog 99 [jA l,.fn g cs] ⟨.d (aT (mG p l)),true⟩:=by
 refine bE Tryz.func99 rfl Tryz.ntmps99 Tryz.results99 λw0 X hp=>?_;refine eG.len (t:=0) rfl λhlen=>?_;simp at hlen;refine aA ?_;simp;refine aB ?_;refine aA ?_;simp;refine aF ?_;refine aJ (ι:=Nat) (λi=>aU [(0,.d (jA l)),(1,.d (.fn g cs)),(7,.d (aT l.length)),(8,.d (aT i))]) (λi=>aL []) (λi=>i<=l.length/\AY p l i) (λi=>l.length-i) 0 (aC hp [0,1,7,8] []) (⟨Nat.zero_le _,AY.zero⟩) λi hi2=>?_;refine aA ?_;simp;refine aB ?_;refine aD ?_;simp;refine⟨λh2=>?_,λh2=>?_⟩
 ·refine aH ?_;simp;refine aB ?_;refine aF ?_;refine aA ?_;simp;refine aS hT hW (λ|16=>some<| .plain ⟨.d (.bool (p l[i])),true⟩|_=>none) ?_;simp[h2];refine⟨hg l[i] (List.getElem_mem h2),?_⟩;refine aD ?_;simp;refine⟨λh4=>?_,λh4=>?_⟩
  ·refine aA ?_;simp;refine aN ?_;simp[kW (hi2.2.found h2 h4)]
  ·refine aH ?_;simp;refine aG ?_;simp;refine⟨by omega,?_⟩;refine aI (i+1) (aC hp [0,1,7,8] []) ?_ ?_
   ·exact⟨h2,hi2.2.succ h2 h4⟩
   ·omega
 ·refine aO ?_;simp;refine aA ?_;simp;refine aN ?_;simp[mQ (hi2.2.none (by omega))]
theorem LD(l:List Df)(p:Df->Bool)(g:FuncId)(cs:List DV)(hg:∀x∈l,Ok Tryz.prog g (x.d::cs) ⟨.d (.bool (p x)),true⟩):Ok Tryz.prog 188 [jA l,.fn g cs] ⟨.d (.bool (l.any p)),true⟩:=by
 refine bE Tryz.func188 rfl Tryz.ntmps188 Tryz.results188 λw0 X hp=>?_;refine aA ?_;simp;refine aS hT hW (λ|7=>some<| .plain ⟨.d (aT (mG p l)),true⟩|_=>none) ?_;simp;refine⟨Hk l p g cs hg,?_⟩;refine aN ?_;simp[<-sJ]
theorem Hl(d:Df):Ok Tryz.prog 189 [d.d] ⟨.d (.bool (decide (d.text.length>1024))),true⟩:=by
 refine bE Tryz.func189 rfl Tryz.ntmps189 Tryz.results189 λw0 X hp=>?_;refine aA ?_;simp;refine aA ?_;simp;refine aN ?_;simp;omega
theorem Fd{e:Ed}:List.take e.puts.length (List.map DV.str (aP e))=List.map DV.str (e.puts.map Df.name):=by simp[aP]
theorem Jt(e:Ed)(b1:e.puts.length<=1100000)(b2:e.drops.length<=1100000):Ok Tryz.prog 113 [e.d] ⟨.d (.bool (dA e)),true⟩:=by
 refine bE Tryz.func113 rfl Tryz.ntmps113 Tryz.results113 λw0 X hp=>?_;refine aA ?_;simp;refine aS hT hW (λ|10=>some<| .plain ⟨.d (cQ (aP e)),true⟩|_=>none) ?_;simp;refine⟨sN e b1 b2,?_⟩;refine aA ?_;simp[Fd];refine⟨by simp[aP],?_⟩;refine aB ?_;refine aS hT hW (λ|18=>some<| .plain ⟨.d (.bool e.name.isName),true⟩|28=>some<| .plain ⟨.d (.bool (nJ Nm.less e.needs)),true⟩|33=>some<| .plain ⟨.d (.bool (nJ fX (e.puts.map Df.name))),true⟩|39=>some<| .plain ⟨.d (.bool (nJ fX e.drops)),true⟩|_=>none) ?_;simp;refine⟨⟨⟨⟨zC _,λ_ _=>LC _⟩,λ_ _ _=>by simpa [cQ]using CE (e.puts.map Df.name)⟩,λ_ _ _ _=>CE _⟩,?_⟩;refine aD ?_;simp;refine⟨λh3=>?_,λn1 n2 n3 n4 n5=>?_⟩
 ·refine aA ?_;simp;refine aN ?_;simp;rcases h3 with(((h|h)|h)|h)|h
  ·simp[dA,h]
  ·have h:¬(aP e).length<=24:=(by omega);simp[dA,h]
  ·simp[dA,h]
  ·simp[dA,h]
  ·simp[dA,h]
 ·refine aH ?_;simp;refine aB ?_;refine aA ?_;simp;refine aF ?_;refine aJ (ι:=Nat) (λi=>aU [(1,.bx 1 0),(3,.d (cQ (aP e))),(43,.d (bY e.needs)),(44,.d (aT e.needs.length)),(45,.d (aT i))]) (λi=>aL [(1,.box false ((aK e.d).map .d))]) (λi=>i<=e.needs.length/\AY (λn=> !Nm.isName n) e.needs i) (λi=>e.needs.length-i) 0 (aC hp [1,3,43,44,45] [(1,1)]) (⟨Nat.zero_le _,AY.zero⟩) λi hi6=>?_;refine eG.len (t:=43) rfl λhlen6=>?_;simp at hlen6;refine aA ?_;simp;refine aB ?_;refine aD ?_;simp;refine⟨λh6=>?_,λh6=>?_⟩
  ·refine aH ?_;simp;refine aB ?_;refine aF ?_;refine aA ?_;simp[h6];refine aS hT hW (λ|50=>some<| .plain ⟨.d (.bool e.needs[i].isName),true⟩|_=>none) ?_;simp;refine⟨zC _,?_⟩;refine aD ?_;simp;refine⟨λh8=>?_,λh8=>?_⟩
   ·refine aA ?_;simp;refine aN ?_;simp;have:e.needs.all Nm.isName=false:=by
     rw[List.all_eq_false];exact⟨_,List.getElem_mem h6,by simp[h8]⟩
    simp[dA,this]
   ·refine aH ?_;simp;refine aG ?_;simp;refine⟨by omega,?_⟩;refine aI (i+1) (aC hp [1,3,43,44,45] [(1,1)]) ?_ ?_
    ·exact⟨h6,hi6.2.succ h6 (by simpa using h8)⟩
    ·omega
  ·refine aO ?_;simp;refine aB ?_;refine aA ?_;simp;refine aF ?_;refine aJ (ι:=Nat) (λk=>aU [(1,.bx 1 0),(3,.d (cQ (aP e))),(53,.d (cQ (aP e))),(54,.d (aT (aP e).length)),(55,.d (aT k))]) (λk=>aL [(1,.box false ((aK e.d).map .d))]) (λk=>k<=(aP e).length/\∀(j:Nat) (h:j<(aP e).length),j<k->sL (aP e) j h=true) (λk=>(aP e).length-k) 0 (aC hp [1,3,53,54,55] [(1,1)]) (⟨Nat.zero_le _,λj _ h=>absurd h (Nat.not_lt_zero _)⟩) λk hi12=>?_;refine eG.len (t:=53) rfl λhlen12=>?_;simp at hlen12;refine aA ?_;simp;refine aB ?_;refine aD ?_;simp;refine⟨λh12=>?_,λh12=>?_⟩
   ·refine aH ?_;simp;refine aB ?_;refine aF ?_;refine aA ?_;simp[h12];refine aS hT hW (λ|72=>some<| .plain ⟨.d (.bool (decide ((aP e).getD k default∈(aP e).take k))),true⟩|_=>none) ?_;simp[h12];refine⟨⟨λ_ _=>by omega,λ_ _=>by simpa [cQ]using Bh ((aP e).take k) (aP e)[k]⟩,?_⟩;refine aD ?_;simp;refine⟨λh14=>?_,λq1 q2 q3=>?_⟩
    ·refine aA ?_;simp;refine aN ?_;simp;have:mH (aP e)=false:=by
      cases q:mH (aP e)with
      |false=>rfl
      |true=>
       have:=oK.1 q k h12;simp[sL]at this;rcases h14 with(h|h)|h
       ·exact absurd h this.1.1
       ·omega
       ·exact absurd h this.2
     simp[dA,this]
    ·refine aH ?_;simp;refine aG ?_;simp;refine⟨by omega,?_⟩;refine aI (k+1) (aC hp [1,3,53,54,55] [(1,1)]) ?_ ?_
     ·refine⟨h12,λj hj hjk=>?_⟩;by_cases hjk':j=k
      ·subst hjk';simp[sL,q1,q3,show(aP e)[j].length<=16 by omega]
      ·exact hi12.2 j hj (by omega)
     ·omega
   ·refine aO ?_;simp;refine aS hT hW (λ|77=>some<| .plain ⟨.d (.bool (e.puts.any λd=>decide (d.text.length>1024))),true⟩|_=>none) ?_;simp;refine⟨LD _ _ _ _ λd _=>Hl d,?_⟩;refine aN ?_;simp;have h1:e.needs.all Nm.isName=true:=by
     have:=hi6.2.any (by omega);simpa using this
    have h2:mH (aP e)=true:=oK.2 λj hj=>hi12.2 j hj (by omega);have h3:(aP e).length<=24:=by omega
    simp only[dA,n1,n3,n4,n5,h1,h2,h3,decide_true,Bool.true_and,Bool.and_self];rw[Bool.eq_iff_iff];simp
end
section
attribute[local simp] bA bW aQ aZ
theorem Ju(l:List Ed)(n:Nm):Ok Tryz.prog 116 [n.d,.ro [bT l]] ⟨.d (.bool (decide (bM l n<0))),true⟩:=by
 refine bE Tryz.func116 rfl Tryz.ntmps116 Tryz.results116 λw0 X hp=>?_;refine aA ?_;simp;refine aS hT hW (λ|6=>some<| .plain ⟨.d (aT (bM l n)),true⟩|_=>none) ?_;simp;refine⟨jX l n,?_⟩;refine aN ?_;simp
def iL(l:List Ed):Prop:=∀e∈l,e.puts.length<=1100000/\e.drops.length<=1100000
theorem tM(l:List Ed)(hs:iL l):Ok Tryz.prog 44 [bT l] ⟨.tup [.d (aT (cT l).1),.d (aT (cT l).2)],true⟩:=by
 refine AV Tryz.func44 (by kernel_rfl) (c:=_) rfl Tryz.ntmps44 (by simp) Tryz.results44 rfl λw0 X hp=>?_;refine eG.len (t:=0) rfl λhlen=>?_;simp at hlen;refine aA ?_;simp;refine aB ?_;refine aA ?_;simp;refine aD ?_;simp;refine⟨λh1=>?_,λh1=>?_⟩
 ·refine aA ?_;simp;refine aN ?_;have:64<l.length:=by omega
  simp[cT,this]
 ·refine aH ?_;simp;refine aB ?_;refine aA ?_;simp;refine aF ?_;refine aJ (ι:=Nat) (λi=>aU [(1,.bx 1 0),(9,.d (bT l)),(10,.d (aT l.length)),(11,.d (aT i))]) (λi=>aL [(1,.box false [.d (bT l)])]) (λi=>i<=l.length/\dW l (l.drop i) i=dW l l 0) (λi=>l.length-i) 0 (aC hp [1,9,10,11] [(1,1)]) (by simp) λi hi4=>?_;refine aA ?_;simp;refine aB ?_;refine aD ?_;simp;refine⟨λh4=>?_,λh4=>?_⟩
  ·refine aH ?_;simp;refine aB ?_;refine aF ?_;refine aA ?_;simp[h4];refine aF ?_;refine aS hT hW (λ|18=>some<| .plain ⟨.d (.bool (dA l[i])),true⟩|_=>none) ?_;simp[h4];refine⟨Jt l[i] (hs _ (List.getElem_mem h4)).1 (hs _ (List.getElem_mem h4)).2,?_⟩;refine aD ?_;simp;refine⟨λh6=>?_,λh6=>?_⟩
   ·refine aA ?_;simp;refine aN ?_;have hl:¬64<l.length:=by omega
    have e:kX l i l[i]=1:=(by simp[kX,h6]);have hv:=dS h4 (by rw[e];decide);rw[hi4.2,e]at hv;simp[cT,hl,hv]
   ·refine aS hT hW (λ|25=>some<| .plain ⟨.d (aT (bM l l[i].name)),true⟩|_=>none) ?_;simp;refine⟨jX l l[i].name,?_⟩;refine aD ?_;simp;refine⟨λh8=>?_,λh8=>?_⟩
    ·refine aA ?_;simp;refine aN ?_;have hl:¬64<l.length:=by omega
     have e:kX l i l[i]=7:=(by simp[kX,h6,h8]);have hv:=dS h4 (by rw[e];decide);rw[hi4.2,e]at hv;simp[cT,hl,hv]
    ·refine aS hT hW (λ|33=>some<| .plain ⟨.d (.bool (l[i].needs.any λn=>decide (bM l n<0))),true⟩|_=>none) ?_;simp;refine⟨wI _ _ _ _ λn _=>Ju l n,?_⟩;refine aD ?_;simp;refine⟨λn10 hm10 hl10=>?_,λh10=>?_⟩
     ·have h10:l[i].needs.any (λn=>decide (bM l n<0))=true:=List.any_eq_true.2 ⟨n10,hm10,by simpa using hl10⟩;refine aA ?_;simp;refine aN ?_;have hl:¬64<l.length:=by omega
      have k8:¬bM l l[i].name<i:=(by omega);have k10:l[i].needs.any (λn=>decide (bM l n<0))=true:=h10;have e:kX l i l[i]=6:=by simp[kX,h6,k8,k10]
      have hv:=dS h4 (by rw[e];decide);rw[hi4.2,e]at hv;simp[cT,hl,hv]
     ·refine aS hT hW (λ|41=>some<| .plain ⟨.d (.bool (decide (l[i].name∈bZ l l[i].name))),true⟩|_=>none) ?_;simp;refine⟨nI l _ _,?_⟩;refine aD ?_;simp;refine⟨λh12=>?_,λh12=>?_⟩
      ·refine aA ?_;simp;refine aN ?_;have hl:¬64<l.length:=by omega
       have k8:¬bM l l[i].name<i:=(by omega);have k10:l[i].needs.any (λn=>decide (bM l n<0))=false:=by simpa using h10
       have e:kX l i l[i]=13:=(by simp[kX,h6,k8,k10,h12]);have hv:=dS h4 (by rw[e];decide);rw[hi4.2,e]at hv;simp[cT,hl,hv]
      ·refine aH ?_;simp;refine aG ?_;simp;refine⟨by omega,?_⟩;refine aI (i+1) (aC hp [1,9,10,11] [(1,1)]) ?_ ?_
       ·refine⟨h4,?_⟩;rw[<-hi4.2,<-sM h4];have k8:¬bM l l[i].name<i:=by omega
        have k10:l[i].needs.any (λn=>decide (bM l n<0))=false:=by simpa using h10
        simp[kX,h6,k8,k10,h12]
       ·omega
  ·refine aO ?_;simp;refine aA ?_;simp;refine aN ?_;have hl:¬64<l.length:=by omega
   have hv:=uK (l:=l) (i:=i) (by omega);rw[hi4.2]at hv;have q:i=l.length:=by omega
   simp[cT,hl,hv,q]
end
end Go.Eng
