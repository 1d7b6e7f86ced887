/-
  Texts of the proofs of this seat, part 3. No condition.
-/
import Derived.Test.YtpoohdjiocpcfaaGreatMB
import Derived.Test.YtpoohdjiocpcfaaGreatProg
import Derived.KernelRfl
import Derived.Shelf.SlSortCmp.NoneTotal
import Derived.RangeFuncNested
import Derived.OwnWalkIn
import Derived.Shelf.SlGeneric
import Derived.Shelf.SortM.Plain
import Derived.Shelf.SortM.SortNone
import Derived.Lib.Strings
import Derived.Lib.Slices
import Derived.Lib.Walk
import Derived.Lib.Bytealg
import Derived.Maps.RangeRun
import Derived.Shelf.SlIter.Collect
set_option linter.unusedVariables false
set_option linter.unusedSimpArgs false
/-
  THE TABLE OF THE TYPES of this translation, printed by a program of the seat's own (mktab.py) off the dump; checked against the program by the kernel. No condition.
-/
namespace Go.Eng
def tab : List (Nat × TyI) :=
  [(2, ⟨.int .i64, 1, 8, [.int .i64 0], []⟩),
   (3, ⟨.int .i64, 1, 8, [.int .i64 0], []⟩),
   (4, ⟨.bool, 1, 1, [.bool false], []⟩),
   (5, ⟨.int .u8, 1, 1, [.int .u8 0], []⟩),
   (6, ⟨.int .u8, 1, 1, [.int .u8 0], []⟩),
   (9, ⟨.str, 1, 16, [.string .empty], []⟩),
   (10, ⟨.str, 1, 16, [.string .empty], []⟩),
   (11, ⟨.str, 1, 16, [.string .empty], []⟩),
   (12, ⟨.int .u64, 1, 8, [.int .u64 0], []⟩),
   (21, ⟨.int .i32, 1, 4, [.int .i32 0], []⟩),
   (22, ⟨.slice 3, 1, 24, [.slice none 0 0], []⟩),
   (23, ⟨.slice 28, 1, 24, [.slice none 0 0], []⟩),
   (24, ⟨.other, 1, 8, [.nilFunc], []⟩),
   (25, ⟨.int .i64, 1, 8, [.int .i64 0], []⟩),
   (27, ⟨.other, 1, 8, [.nilFunc], []⟩),
   (28, ⟨.slice 61, 1, 24, [.slice none 0 0], []⟩),
   (29, ⟨.other, 1, 8, [.nilFunc], []⟩),
   (30, ⟨.other, 1, 8, [.nilFunc], []⟩),
   (31, ⟨.slice 33, 1, 24, [.slice none 0 0], []⟩),
   (32, ⟨.other, 1, 8, [.nilFunc], []⟩),
   (33, ⟨.slice 42, 1, 24, [.slice none 0 0], []⟩),
   (35, ⟨.other, 1, 8, [.nilFunc], []⟩),
   (36, ⟨.other, 1, 8, [.nilFunc], []⟩),
   (37, ⟨.other, 1, 8, [.nilFunc], []⟩),
   (38, ⟨.other, 1, 8, [.nilFunc], []⟩),
   (39, ⟨.other, 1, 8, [.nilFunc], []⟩),
   (40, ⟨.other, 1, 8, [.nilFunc], []⟩),
   (41, ⟨.struct [(0, 3), (1, 3)], 2, 16, [.int .i64 0, .int .i64 0], [.int .i64, .int .i64]⟩),
   (42, ⟨.struct [(0, 3), (1, 3)], 2, 16, [.int .i64 0, .int .i64 0], [.int .i64, .int .i64]⟩),
   (43, ⟨.other, 1, 8, [.nilFunc], []⟩),
   (44, ⟨.other, 1, 8, [.nilFunc], []⟩),
   (45, ⟨.slice 58, 1, 24, [.slice none 0 0], []⟩),
   (46, ⟨.other, 1, 8, [.nilFunc], []⟩),
   (47, ⟨.slice 45, 1, 24, [.slice none 0 0], []⟩),
   (49, ⟨.other, 1, 8, [.nilFunc], []⟩),
   (50, ⟨.other, 1, 8, [.nilFunc], []⟩),
   (51, ⟨.other, 1, 8, [.nilFunc], []⟩),
   (52, ⟨.other, 1, 8, [.nilFunc], []⟩),
   (53, ⟨.other, 1, 8, [.nilFunc], []⟩),
   (54, ⟨.other, 1, 8, [.nilFunc], []⟩),
   (55, ⟨.int .u64, 1, 8, [.int .u64 0], []⟩),
   (56, ⟨.other, 1, 8, [.nilFunc], []⟩),
   (57, ⟨.struct [(0, 9), (1, 9)], 2, 32, [.string .empty, .string .empty], [.str, .str]⟩),
   (58, ⟨.struct [(0, 9), (1, 9)], 2, 32, [.string .empty, .string .empty], [.str, .str]⟩),
   (59, ⟨.slice 9, 1, 24, [.slice none 0 0], []⟩),
   (60, ⟨.struct [(0, 42), (2, 33), (3, 45), (4, 59)], 5, 88, [.int .i64 0, .int .i64 0, .slice none 0 0, .slice none 0 0, .slice none 0 0], []⟩),
   (61, ⟨.struct [(0, 42), (2, 33), (3, 45), (4, 59)], 5, 88, [.int .i64 0, .int .i64 0, .slice none 0 0, .slice none 0 0, .slice none 0 0], []⟩),
   (62, ⟨.other, 1, 8, [.nilFunc], []⟩),
   (63, ⟨.other, 1, 8, [.nilFunc], []⟩),
   (64, ⟨.other, 1, 8, [.nilFunc], []⟩),
   (65, ⟨.struct [(0, 31)], 1, 24, [.slice none 0 0], []⟩),
   (66, ⟨.struct [(0, 31)], 1, 24, [.slice none 0 0], []⟩),
   (67, ⟨.other, 1, 8, [.nilFunc], []⟩),
   (68, ⟨.other, 1, 8, [.nilFunc], []⟩),
   (69, ⟨.slice 66, 1, 24, [.slice none 0 0], []⟩),
   (70, ⟨.other, 1, 8, [.nilFunc], []⟩),
   (71, ⟨.other, 1, 8, [.nilFunc], []⟩),
   (72, ⟨.struct [(0, 31)], 1, 24, [.slice none 0 0], []⟩),
   (73, ⟨.other, 1, 8, [.nilFunc], []⟩),
   (74, ⟨.other, 1, 8, [.nilFunc], []⟩),
   (75, ⟨.other, 1, 8, [.nilFunc], []⟩),
   (76, ⟨.other, 1, 8, [.nilFunc], []⟩),
   (77, ⟨.other, 1, 8, [.nilFunc], []⟩),
   (78, ⟨.other, 1, 8, [.nilFunc], []⟩),
   (79, ⟨.other, 1, 8, [.nilFunc], []⟩),
   (80, ⟨.struct [(0, 3), (1, 3), (2, 3), (3, 33)], 4, 48, [.int .i64 0, .int .i64 0, .int .i64 0, .slice none 0 0], []⟩),
   (81, ⟨.struct [(0, 3), (1, 3), (2, 3), (3, 33)], 4, 48, [.int .i64 0, .int .i64 0, .int .i64 0, .slice none 0 0], []⟩),
   (82, ⟨.other, 1, 8, [.nilFunc], []⟩),
   (83, ⟨.slice 81, 1, 24, [.slice none 0 0], []⟩),
   (85, ⟨.other, 1, 8, [.nilFunc], []⟩),
   (86, ⟨.struct [(0, 3), (1, 3), (2, 3), (3, 33)], 4, 48, [.int .i64 0, .int .i64 0, .int .i64 0, .slice none 0 0], []⟩),
   (87, ⟨.other, 1, 8, [.nilFunc], []⟩),
   (89, ⟨.other, 1, 8, [.nilFunc], []⟩),
   (90, ⟨.other, 1, 8, [.nilFunc], []⟩),
   (91, ⟨.other, 1, 8, [.nilFunc], []⟩),
   (92, ⟨.other, 1, 8, [.nilFunc], []⟩),
   (93, ⟨.other, 1, 8, [.nilFunc], []⟩),
   (94, ⟨.slice 5, 1, 24, [.slice none 0 0], []⟩),
   (95, ⟨.other, 1, 8, [.nilFunc], []⟩),
   (96, ⟨.other, 1, 8, [.nilFunc], []⟩),
   (97, ⟨.other, 1, 8, [.nilFunc], []⟩),
   (98, ⟨.other, 1, 8, [.nilFunc], []⟩),
   (99, ⟨.other, 1, 8, [.nilFunc], []⟩),
   (100, ⟨.other, 1, 8, [.nilFunc], []⟩),
   (101, ⟨.other, 1, 8, [.nilFunc], []⟩),
   (103, ⟨.other, 1, 8, [.nilFunc], []⟩),
   (104, ⟨.other, 1, 8, [.nilFunc], []⟩),
   (105, ⟨.slice 107, 1, 24, [.slice none 0 0], []⟩),
   (106, ⟨.other, 1, 8, [.nilFunc], []⟩),
   (107, ⟨.arr 2 42, 4, 32, [.int .i64 0, .int .i64 0, .int .i64 0, .int .i64 0], [.int .i64, .int .i64, .int .i64, .int .i64]⟩),
   (108, ⟨.other, 1, 8, [.nilFunc], []⟩),
   (109, ⟨.other, 1, 8, [.nilFunc], []⟩),
   (110, ⟨.other, 1, 8, [.nilFunc], []⟩),
   (111, ⟨.other, 1, 8, [.nilFunc], []⟩),
   (112, ⟨.map 42 4, 1, 8, [.map none], []⟩),
   (113, ⟨.other, 1, 8, [.nilFunc], []⟩),
   (114, ⟨.other, 1, 8, [.nilFunc], []⟩),
   (115, ⟨.other, 1, 8, [.nilFunc], []⟩),
   (116, ⟨.other, 1, 8, [.nilFunc], []⟩),
   (117, ⟨.other, 1, 8, [.nilFunc], []⟩),
   (118, ⟨.other, 1, 8, [.nilFunc], []⟩),
   (119, ⟨.other, 1, 8, [.nilFunc], []⟩),
   (120, ⟨.other, 1, 8, [.nilFunc], []⟩),
   (121, ⟨.map 9 58, 1, 8, [.map none], []⟩),
   (123, ⟨.other, 1, 8, [.nilFunc], []⟩),
   (124, ⟨.other, 1, 8, [.nilFunc], []⟩),
   (125, ⟨.other, 1, 8, [.nilFunc], []⟩),
   (126, ⟨.other, 1, 8, [.nilFunc], []⟩),
   (127, ⟨.other, 1, 8, [.nilFunc], []⟩),
   (128, ⟨.other, 1, 8, [.nilFunc], []⟩),
   (129, ⟨.other, 1, 8, [.nilFunc], []⟩),
   (130, ⟨.other, 1, 8, [.nilFunc], []⟩),
   (131, ⟨.other, 1, 8, [.nilFunc], []⟩),
   (132, ⟨.other, 1, 8, [.nilFunc], []⟩),
   (133, ⟨.other, 1, 8, [.nilFunc], []⟩),
   (134, ⟨.other, 1, 8, [.nilFunc], []⟩),
   (135, ⟨.other, 1, 8, [.nilFunc], []⟩),
   (136, ⟨.other, 1, 8, [.nilFunc], []⟩),
   (137, ⟨.slice 86, 1, 24, [.slice none 0 0], []⟩),
   (138, ⟨.slice 31, 1, 24, [.slice none 0 0], []⟩),
   (139, ⟨.slice 25, 1, 24, [.slice none 0 0], []⟩),
   (140, ⟨.other, 1, 8, [.nilFunc], []⟩),
   (141, ⟨.other, 1, 8, [.nilFunc], []⟩),
   (142, ⟨.other, 1, 8, [.nilFunc], []⟩),
   (143, ⟨.other, 1, 8, [.nilFunc], []⟩),
   (144, ⟨.other, 1, 8, [.nilFunc], []⟩),
   (145, ⟨.map 3 144, 1, 8, [.map none], []⟩),
   (146, ⟨.other, 1, 8, [.nilFunc], []⟩),
   (147, ⟨.other, 1, 8, [.nilFunc], []⟩),
   (148, ⟨.other, 1, 8, [.nilFunc], []⟩),
   (149, ⟨.other, 1, 8, [.nilFunc], []⟩),
   (150, ⟨.other, 1, 8, [.nilFunc], []⟩),
   (151, ⟨.other, 1, 8, [.nilFunc], []⟩),
   (152, ⟨.other, 1, 8, [.nilFunc], []⟩),
   (153, ⟨.other, 1, 8, [.nilFunc], []⟩),
   (154, ⟨.other, 1, 8, [.nilFunc], []⟩),
   (155, ⟨.other, 1, 8, [.nilFunc], []⟩),
   (156, ⟨.other, 1, 8, [.nilFunc], []⟩),
   (157, ⟨.other, 1, 8, [.nilFunc], []⟩),
   (158, ⟨.other, 1, 8, [.nilFunc], []⟩),
   (159, ⟨.other, 1, 8, [.nilFunc], []⟩),
   (160, ⟨.other, 1, 8, [.nilFunc], []⟩),
   (161, ⟨.other, 1, 8, [.nilFunc], []⟩),
   (162, ⟨.other, 1, 8, [.nilFunc], []⟩),
   (163, ⟨.other, 1, 8, [.nilFunc], []⟩),
   (164, ⟨.other, 1, 8, [.nilFunc], []⟩),
   (165, ⟨.other, 1, 8, [.nilFunc], []⟩),
   (166, ⟨.other, 1, 8, [.nilFunc], []⟩),
   (167, ⟨.other, 1, 8, [.nilFunc], []⟩),
   (168, ⟨.other, 1, 8, [.nilFunc], []⟩),
   (169, ⟨.other, 1, 8, [.nilFunc], []⟩),
   (170, ⟨.other, 1, 8, [.nilFunc], []⟩),
   (171, ⟨.other, 1, 8, [.nilFunc], []⟩),
   (172, ⟨.other, 1, 8, [.nilFunc], []⟩),
   (173, ⟨.other, 1, 8, [.nilFunc], []⟩),
   (174, ⟨.other, 1, 8, [.nilFunc], []⟩),
   (175, ⟨.other, 1, 8, [.nilFunc], []⟩),
   (176, ⟨.other, 1, 8, [.nilFunc], []⟩),
   (177, ⟨.other, 1, 8, [.nilFunc], []⟩),
   (178, ⟨.other, 1, 8, [.nilFunc], []⟩),
   (179, ⟨.int .u64, 1, 8, [.int .u64 0], []⟩),
   (180, ⟨.other, 1, 8, [.nilFunc], []⟩),
   (181, ⟨.other, 1, 8, [.nilFunc], []⟩),
   (182, ⟨.other, 1, 8, [.nilFunc], []⟩),
   (183, ⟨.other, 1, 8, [.nilFunc], []⟩),
   (184, ⟨.int .i64, 1, 8, [.int .i64 0], []⟩),
   (186, ⟨.other, 1, 8, [.nilFunc], []⟩),
   (187, ⟨.other, 1, 8, [.nilFunc], []⟩),
   (188, ⟨.other, 1, 8, [.nilFunc], []⟩),
   (190, ⟨.other, 1, 8, [.nilFunc], []⟩),
   (191, ⟨.other, 1, 8, [.nilFunc], []⟩),
   (192, ⟨.int .u32, 1, 4, [.int .u32 0], []⟩),
   (193, ⟨.other, 1, 8, [.nilFunc], []⟩),
   (194, ⟨.other, 1, 8, [.nilFunc], []⟩),
   (195, ⟨.other, 1, 8, [.nilFunc], []⟩),
   (196, ⟨.other, 1, 8, [.nilFunc], []⟩),
   (197, ⟨.other, 1, 8, [.nilFunc], []⟩),
   (198, ⟨.other, 1, 8, [.nilFunc], []⟩),
   (199, ⟨.other, 1, 8, [.nilFunc], []⟩),
   (200, ⟨.other, 1, 8, [.nilFunc], []⟩),
   (201, ⟨.int .u64, 1, 8, [.int .u64 0], []⟩),
   (202, ⟨.other, 1, 8, [.nilFunc], []⟩),
   (203, ⟨.other, 1, 8, [.nilFunc], []⟩),
   (204, ⟨.other, 1, 8, [.nilFunc], []⟩),
   (205, ⟨.ptr 3, 1, 8, [.pointer none], []⟩),
   (206, ⟨.other, 1, 8, [.nilFunc], []⟩),
   (207, ⟨.other, 1, 8, [.nilFunc], []⟩),
   (208, ⟨.other, 1, 8, [.nilFunc], []⟩),
   (209, ⟨.other, 1, 8, [.nilFunc], []⟩),
   (210, ⟨.other, 1, 8, [.nilFunc], []⟩),
   (211, ⟨.other, 1, 8, [.nilFunc], []⟩),
   (212, ⟨.other, 1, 8, [.nilFunc], []⟩),
   (213, ⟨.ptr 33, 1, 8, [.pointer none], []⟩),
   (214, ⟨.ptr 201, 1, 8, [.pointer none], []⟩),
   (216, ⟨.other, 1, 8, [.nilFunc], []⟩),
   (217, ⟨.other, 1, 8, [.nilFunc], []⟩),
   (218, ⟨.other, 1, 8, [.nilFunc], []⟩),
   (219, ⟨.other, 1, 8, [.nilFunc], []⟩),
   (220, ⟨.other, 1, 8, [.nilFunc], []⟩),
   (221, ⟨.other, 1, 8, [.nilFunc], []⟩),
   (227, ⟨.other, 1, 8, [.nilFunc], []⟩),
   (228, ⟨.int .u8, 1, 1, [.int .u8 0], []⟩),
   (229, ⟨.int .u8, 1, 1, [.int .u8 0], []⟩),
   (230, ⟨.other, 1, 8, [.nilFunc], []⟩),
   (231, ⟨.ptr 5, 1, 8, [.pointer none], []⟩),
   (232, ⟨.int .i32, 1, 4, [.int .i32 0], []⟩),
   (233, ⟨.int .i32, 1, 4, [.int .i32 0], []⟩),
   (234, ⟨.struct [(0, 12), (1, 12), (2, 192), (3, 228), (4, 5), (5, 5), (6, 229), (7, 230), (8, 231), (9, 232), (10, 233)], 11, 48, [.int .u64 0, .int .u64 0, .int .u32 0, .int .u8 0, .int .u8 0, .int .u8 0, .int .u8 0, .nilFunc, .pointer none, .int .i32 0, .int .i32 0], []⟩),
   (235, ⟨.struct [(0, 12), (1, 12), (2, 192), (3, 228), (4, 5), (5, 5), (6, 229), (7, 230), (8, 231), (9, 232), (10, 233)], 11, 48, [.int .u64 0, .int .u64 0, .int .u32 0, .int .u8 0, .int .u8 0, .int .u8 0, .int .u8 0, .nilFunc, .pointer none, .int .i32 0, .int .i32 0], []⟩)]
def T : TypeId → TyI := lookT tab
theorem hT : TOk Go.Proofs.Tryz.prog T := tabChk_ok (by kernel_rfl)
theorem hW : TWf T := tabWf_ok (by kernel_rfl)
@[simp] theorem t2 : T 2 = ⟨.int .i64, 1, 8, [.int .i64 0], []⟩ := by kernel_rfl
@[simp] theorem t3 : T 3 = ⟨.int .i64, 1, 8, [.int .i64 0], []⟩ := by kernel_rfl
@[simp] theorem t4 : T 4 = ⟨.bool, 1, 1, [.bool false], []⟩ := by kernel_rfl
@[simp] theorem t5 : T 5 = ⟨.int .u8, 1, 1, [.int .u8 0], []⟩ := by kernel_rfl
@[simp] theorem t6 : T 6 = ⟨.int .u8, 1, 1, [.int .u8 0], []⟩ := by kernel_rfl
@[simp] theorem t9 : T 9 = ⟨.str, 1, 16, [.string .empty], []⟩ := by kernel_rfl
@[simp] theorem t10 : T 10 = ⟨.str, 1, 16, [.string .empty], []⟩ := by kernel_rfl
@[simp] theorem t11 : T 11 = ⟨.str, 1, 16, [.string .empty], []⟩ := by kernel_rfl
@[simp] theorem t12 : T 12 = ⟨.int .u64, 1, 8, [.int .u64 0], []⟩ := by kernel_rfl
@[simp] theorem t21 : T 21 = ⟨.int .i32, 1, 4, [.int .i32 0], []⟩ := by kernel_rfl
@[simp] theorem t22 : T 22 = ⟨.slice 3, 1, 24, [.slice none 0 0], []⟩ := by kernel_rfl
@[simp] theorem t23 : T 23 = ⟨.slice 28, 1, 24, [.slice none 0 0], []⟩ := by kernel_rfl
@[simp] theorem t24 : T 24 = ⟨.other, 1, 8, [.nilFunc], []⟩ := by kernel_rfl
@[simp] theorem t25 : T 25 = ⟨.int .i64, 1, 8, [.int .i64 0], []⟩ := by kernel_rfl
@[simp] theorem t27 : T 27 = ⟨.other, 1, 8, [.nilFunc], []⟩ := by kernel_rfl
@[simp] theorem t28 : T 28 = ⟨.slice 61, 1, 24, [.slice none 0 0], []⟩ := by kernel_rfl
@[simp] theorem t29 : T 29 = ⟨.other, 1, 8, [.nilFunc], []⟩ := by kernel_rfl
@[simp] theorem t30 : T 30 = ⟨.other, 1, 8, [.nilFunc], []⟩ := by kernel_rfl
@[simp] theorem t31 : T 31 = ⟨.slice 33, 1, 24, [.slice none 0 0], []⟩ := by kernel_rfl
@[simp] theorem t32 : T 32 = ⟨.other, 1, 8, [.nilFunc], []⟩ := by kernel_rfl
@[simp] theorem t33 : T 33 = ⟨.slice 42, 1, 24, [.slice none 0 0], []⟩ := by kernel_rfl
@[simp] theorem t35 : T 35 = ⟨.other, 1, 8, [.nilFunc], []⟩ := by kernel_rfl
@[simp] theorem t36 : T 36 = ⟨.other, 1, 8, [.nilFunc], []⟩ := by kernel_rfl
@[simp] theorem t37 : T 37 = ⟨.other, 1, 8, [.nilFunc], []⟩ := by kernel_rfl
@[simp] theorem t38 : T 38 = ⟨.other, 1, 8, [.nilFunc], []⟩ := by kernel_rfl
@[simp] theorem t39 : T 39 = ⟨.other, 1, 8, [.nilFunc], []⟩ := by kernel_rfl
@[simp] theorem t40 : T 40 = ⟨.other, 1, 8, [.nilFunc], []⟩ := by kernel_rfl
@[simp] theorem t41 : T 41 = ⟨.struct [(0, 3), (1, 3)], 2, 16, [.int .i64 0, .int .i64 0], [.int .i64, .int .i64]⟩ := by kernel_rfl
@[simp] theorem t42 : T 42 = ⟨.struct [(0, 3), (1, 3)], 2, 16, [.int .i64 0, .int .i64 0], [.int .i64, .int .i64]⟩ := by kernel_rfl
@[simp] theorem t43 : T 43 = ⟨.other, 1, 8, [.nilFunc], []⟩ := by kernel_rfl
@[simp] theorem t44 : T 44 = ⟨.other, 1, 8, [.nilFunc], []⟩ := by kernel_rfl
@[simp] theorem t45 : T 45 = ⟨.slice 58, 1, 24, [.slice none 0 0], []⟩ := by kernel_rfl
@[simp] theorem t46 : T 46 = ⟨.other, 1, 8, [.nilFunc], []⟩ := by kernel_rfl
@[simp] theorem t47 : T 47 = ⟨.slice 45, 1, 24, [.slice none 0 0], []⟩ := by kernel_rfl
@[simp] theorem t49 : T 49 = ⟨.other, 1, 8, [.nilFunc], []⟩ := by kernel_rfl
@[simp] theorem t50 : T 50 = ⟨.other, 1, 8, [.nilFunc], []⟩ := by kernel_rfl
@[simp] theorem t51 : T 51 = ⟨.other, 1, 8, [.nilFunc], []⟩ := by kernel_rfl
@[simp] theorem t52 : T 52 = ⟨.other, 1, 8, [.nilFunc], []⟩ := by kernel_rfl
@[simp] theorem t53 : T 53 = ⟨.other, 1, 8, [.nilFunc], []⟩ := by kernel_rfl
@[simp] theorem t54 : T 54 = ⟨.other, 1, 8, [.nilFunc], []⟩ := by kernel_rfl
@[simp] theorem t55 : T 55 = ⟨.int .u64, 1, 8, [.int .u64 0], []⟩ := by kernel_rfl
@[simp] theorem t56 : T 56 = ⟨.other, 1, 8, [.nilFunc], []⟩ := by kernel_rfl
@[simp] theorem t57 : T 57 = ⟨.struct [(0, 9), (1, 9)], 2, 32, [.string .empty, .string .empty], [.str, .str]⟩ := by kernel_rfl
@[simp] theorem t58 : T 58 = ⟨.struct [(0, 9), (1, 9)], 2, 32, [.string .empty, .string .empty], [.str, .str]⟩ := by kernel_rfl
@[simp] theorem t59 : T 59 = ⟨.slice 9, 1, 24, [.slice none 0 0], []⟩ := by kernel_rfl
@[simp] theorem t60 : T 60 = ⟨.struct [(0, 42), (2, 33), (3, 45), (4, 59)], 5, 88, [.int .i64 0, .int .i64 0, .slice none 0 0, .slice none 0 0, .slice none 0 0], []⟩ := by kernel_rfl
@[simp] theorem t61 : T 61 = ⟨.struct [(0, 42), (2, 33), (3, 45), (4, 59)], 5, 88, [.int .i64 0, .int .i64 0, .slice none 0 0, .slice none 0 0, .slice none 0 0], []⟩ := by kernel_rfl
@[simp] theorem t62 : T 62 = ⟨.other, 1, 8, [.nilFunc], []⟩ := by kernel_rfl
@[simp] theorem t63 : T 63 = ⟨.other, 1, 8, [.nilFunc], []⟩ := by kernel_rfl
@[simp] theorem t64 : T 64 = ⟨.other, 1, 8, [.nilFunc], []⟩ := by kernel_rfl
@[simp] theorem t65 : T 65 = ⟨.struct [(0, 31)], 1, 24, [.slice none 0 0], []⟩ := by kernel_rfl
@[simp] theorem t66 : T 66 = ⟨.struct [(0, 31)], 1, 24, [.slice none 0 0], []⟩ := by kernel_rfl
@[simp] theorem t67 : T 67 = ⟨.other, 1, 8, [.nilFunc], []⟩ := by kernel_rfl
@[simp] theorem t68 : T 68 = ⟨.other, 1, 8, [.nilFunc], []⟩ := by kernel_rfl
@[simp] theorem t69 : T 69 = ⟨.slice 66, 1, 24, [.slice none 0 0], []⟩ := by kernel_rfl
@[simp] theorem t70 : T 70 = ⟨.other, 1, 8, [.nilFunc], []⟩ := by kernel_rfl
@[simp] theorem t71 : T 71 = ⟨.other, 1, 8, [.nilFunc], []⟩ := by kernel_rfl
@[simp] theorem t72 : T 72 = ⟨.struct [(0, 31)], 1, 24, [.slice none 0 0], []⟩ := by kernel_rfl
@[simp] theorem t73 : T 73 = ⟨.other, 1, 8, [.nilFunc], []⟩ := by kernel_rfl
@[simp] theorem t74 : T 74 = ⟨.other, 1, 8, [.nilFunc], []⟩ := by kernel_rfl
@[simp] theorem t75 : T 75 = ⟨.other, 1, 8, [.nilFunc], []⟩ := by kernel_rfl
@[simp] theorem t76 : T 76 = ⟨.other, 1, 8, [.nilFunc], []⟩ := by kernel_rfl
@[simp] theorem t77 : T 77 = ⟨.other, 1, 8, [.nilFunc], []⟩ := by kernel_rfl
@[simp] theorem t78 : T 78 = ⟨.other, 1, 8, [.nilFunc], []⟩ := by kernel_rfl
@[simp] theorem t79 : T 79 = ⟨.other, 1, 8, [.nilFunc], []⟩ := by kernel_rfl
@[simp] theorem t80 : T 80 = ⟨.struct [(0, 3), (1, 3), (2, 3), (3, 33)], 4, 48, [.int .i64 0, .int .i64 0, .int .i64 0, .slice none 0 0], []⟩ := by kernel_rfl
@[simp] theorem t81 : T 81 = ⟨.struct [(0, 3), (1, 3), (2, 3), (3, 33)], 4, 48, [.int .i64 0, .int .i64 0, .int .i64 0, .slice none 0 0], []⟩ := by kernel_rfl
@[simp] theorem t82 : T 82 = ⟨.other, 1, 8, [.nilFunc], []⟩ := by kernel_rfl
@[simp] theorem t83 : T 83 = ⟨.slice 81, 1, 24, [.slice none 0 0], []⟩ := by kernel_rfl
@[simp] theorem t85 : T 85 = ⟨.other, 1, 8, [.nilFunc], []⟩ := by kernel_rfl
@[simp] theorem t86 : T 86 = ⟨.struct [(0, 3), (1, 3), (2, 3), (3, 33)], 4, 48, [.int .i64 0, .int .i64 0, .int .i64 0, .slice none 0 0], []⟩ := by kernel_rfl
@[simp] theorem t87 : T 87 = ⟨.other, 1, 8, [.nilFunc], []⟩ := by kernel_rfl
@[simp] theorem t89 : T 89 = ⟨.other, 1, 8, [.nilFunc], []⟩ := by kernel_rfl
@[simp] theorem t90 : T 90 = ⟨.other, 1, 8, [.nilFunc], []⟩ := by kernel_rfl
@[simp] theorem t91 : T 91 = ⟨.other, 1, 8, [.nilFunc], []⟩ := by kernel_rfl
@[simp] theorem t92 : T 92 = ⟨.other, 1, 8, [.nilFunc], []⟩ := by kernel_rfl
@[simp] theorem t93 : T 93 = ⟨.other, 1, 8, [.nilFunc], []⟩ := by kernel_rfl
@[simp] theorem t94 : T 94 = ⟨.slice 5, 1, 24, [.slice none 0 0], []⟩ := by kernel_rfl
@[simp] theorem t95 : T 95 = ⟨.other, 1, 8, [.nilFunc], []⟩ := by kernel_rfl
@[simp] theorem t96 : T 96 = ⟨.other, 1, 8, [.nilFunc], []⟩ := by kernel_rfl
@[simp] theorem t97 : T 97 = ⟨.other, 1, 8, [.nilFunc], []⟩ := by kernel_rfl
@[simp] theorem t98 : T 98 = ⟨.other, 1, 8, [.nilFunc], []⟩ := by kernel_rfl
@[simp] theorem t99 : T 99 = ⟨.other, 1, 8, [.nilFunc], []⟩ := by kernel_rfl
@[simp] theorem t100 : T 100 = ⟨.other, 1, 8, [.nilFunc], []⟩ := by kernel_rfl
@[simp] theorem t101 : T 101 = ⟨.other, 1, 8, [.nilFunc], []⟩ := by kernel_rfl
@[simp] theorem t103 : T 103 = ⟨.other, 1, 8, [.nilFunc], []⟩ := by kernel_rfl
@[simp] theorem t104 : T 104 = ⟨.other, 1, 8, [.nilFunc], []⟩ := by kernel_rfl
@[simp] theorem t105 : T 105 = ⟨.slice 107, 1, 24, [.slice none 0 0], []⟩ := by kernel_rfl
@[simp] theorem t106 : T 106 = ⟨.other, 1, 8, [.nilFunc], []⟩ := by kernel_rfl
@[simp] theorem t107 : T 107 = ⟨.arr 2 42, 4, 32, [.int .i64 0, .int .i64 0, .int .i64 0, .int .i64 0], [.int .i64, .int .i64, .int .i64, .int .i64]⟩ := by kernel_rfl
@[simp] theorem t108 : T 108 = ⟨.other, 1, 8, [.nilFunc], []⟩ := by kernel_rfl
@[simp] theorem t109 : T 109 = ⟨.other, 1, 8, [.nilFunc], []⟩ := by kernel_rfl
@[simp] theorem t110 : T 110 = ⟨.other, 1, 8, [.nilFunc], []⟩ := by kernel_rfl
@[simp] theorem t111 : T 111 = ⟨.other, 1, 8, [.nilFunc], []⟩ := by kernel_rfl
@[simp] theorem t112 : T 112 = ⟨.map 42 4, 1, 8, [.map none], []⟩ := by kernel_rfl
@[simp] theorem t113 : T 113 = ⟨.other, 1, 8, [.nilFunc], []⟩ := by kernel_rfl
@[simp] theorem t114 : T 114 = ⟨.other, 1, 8, [.nilFunc], []⟩ := by kernel_rfl
@[simp] theorem t115 : T 115 = ⟨.other, 1, 8, [.nilFunc], []⟩ := by kernel_rfl
@[simp] theorem t116 : T 116 = ⟨.other, 1, 8, [.nilFunc], []⟩ := by kernel_rfl
@[simp] theorem t117 : T 117 = ⟨.other, 1, 8, [.nilFunc], []⟩ := by kernel_rfl
@[simp] theorem t118 : T 118 = ⟨.other, 1, 8, [.nilFunc], []⟩ := by kernel_rfl
@[simp] theorem t119 : T 119 = ⟨.other, 1, 8, [.nilFunc], []⟩ := by kernel_rfl
@[simp] theorem t120 : T 120 = ⟨.other, 1, 8, [.nilFunc], []⟩ := by kernel_rfl
@[simp] theorem t121 : T 121 = ⟨.map 9 58, 1, 8, [.map none], []⟩ := by kernel_rfl
@[simp] theorem t123 : T 123 = ⟨.other, 1, 8, [.nilFunc], []⟩ := by kernel_rfl
@[simp] theorem t124 : T 124 = ⟨.other, 1, 8, [.nilFunc], []⟩ := by kernel_rfl
@[simp] theorem t125 : T 125 = ⟨.other, 1, 8, [.nilFunc], []⟩ := by kernel_rfl
@[simp] theorem t126 : T 126 = ⟨.other, 1, 8, [.nilFunc], []⟩ := by kernel_rfl
@[simp] theorem t127 : T 127 = ⟨.other, 1, 8, [.nilFunc], []⟩ := by kernel_rfl
@[simp] theorem t128 : T 128 = ⟨.other, 1, 8, [.nilFunc], []⟩ := by kernel_rfl
@[simp] theorem t129 : T 129 = ⟨.other, 1, 8, [.nilFunc], []⟩ := by kernel_rfl
@[simp] theorem t130 : T 130 = ⟨.other, 1, 8, [.nilFunc], []⟩ := by kernel_rfl
@[simp] theorem t131 : T 131 = ⟨.other, 1, 8, [.nilFunc], []⟩ := by kernel_rfl
@[simp] theorem t132 : T 132 = ⟨.other, 1, 8, [.nilFunc], []⟩ := by kernel_rfl
@[simp] theorem t133 : T 133 = ⟨.other, 1, 8, [.nilFunc], []⟩ := by kernel_rfl
@[simp] theorem t134 : T 134 = ⟨.other, 1, 8, [.nilFunc], []⟩ := by kernel_rfl
@[simp] theorem t135 : T 135 = ⟨.other, 1, 8, [.nilFunc], []⟩ := by kernel_rfl
@[simp] theorem t136 : T 136 = ⟨.other, 1, 8, [.nilFunc], []⟩ := by kernel_rfl
@[simp] theorem t137 : T 137 = ⟨.slice 86, 1, 24, [.slice none 0 0], []⟩ := by kernel_rfl
@[simp] theorem t138 : T 138 = ⟨.slice 31, 1, 24, [.slice none 0 0], []⟩ := by kernel_rfl
@[simp] theorem t139 : T 139 = ⟨.slice 25, 1, 24, [.slice none 0 0], []⟩ := by kernel_rfl
@[simp] theorem t140 : T 140 = ⟨.other, 1, 8, [.nilFunc], []⟩ := by kernel_rfl
@[simp] theorem t141 : T 141 = ⟨.other, 1, 8, [.nilFunc], []⟩ := by kernel_rfl
@[simp] theorem t142 : T 142 = ⟨.other, 1, 8, [.nilFunc], []⟩ := by kernel_rfl
@[simp] theorem t143 : T 143 = ⟨.other, 1, 8, [.nilFunc], []⟩ := by kernel_rfl
@[simp] theorem t144 : T 144 = ⟨.other, 1, 8, [.nilFunc], []⟩ := by kernel_rfl
@[simp] theorem t145 : T 145 = ⟨.map 3 144, 1, 8, [.map none], []⟩ := by kernel_rfl
@[simp] theorem t146 : T 146 = ⟨.other, 1, 8, [.nilFunc], []⟩ := by kernel_rfl
@[simp] theorem t147 : T 147 = ⟨.other, 1, 8, [.nilFunc], []⟩ := by kernel_rfl
@[simp] theorem t148 : T 148 = ⟨.other, 1, 8, [.nilFunc], []⟩ := by kernel_rfl
@[simp] theorem t149 : T 149 = ⟨.other, 1, 8, [.nilFunc], []⟩ := by kernel_rfl
@[simp] theorem t150 : T 150 = ⟨.other, 1, 8, [.nilFunc], []⟩ := by kernel_rfl
@[simp] theorem t151 : T 151 = ⟨.other, 1, 8, [.nilFunc], []⟩ := by kernel_rfl
@[simp] theorem t152 : T 152 = ⟨.other, 1, 8, [.nilFunc], []⟩ := by kernel_rfl
@[simp] theorem t153 : T 153 = ⟨.other, 1, 8, [.nilFunc], []⟩ := by kernel_rfl
@[simp] theorem t154 : T 154 = ⟨.other, 1, 8, [.nilFunc], []⟩ := by kernel_rfl
@[simp] theorem t155 : T 155 = ⟨.other, 1, 8, [.nilFunc], []⟩ := by kernel_rfl
@[simp] theorem t156 : T 156 = ⟨.other, 1, 8, [.nilFunc], []⟩ := by kernel_rfl
@[simp] theorem t157 : T 157 = ⟨.other, 1, 8, [.nilFunc], []⟩ := by kernel_rfl
@[simp] theorem t158 : T 158 = ⟨.other, 1, 8, [.nilFunc], []⟩ := by kernel_rfl
@[simp] theorem t159 : T 159 = ⟨.other, 1, 8, [.nilFunc], []⟩ := by kernel_rfl
@[simp] theorem t160 : T 160 = ⟨.other, 1, 8, [.nilFunc], []⟩ := by kernel_rfl
@[simp] theorem t161 : T 161 = ⟨.other, 1, 8, [.nilFunc], []⟩ := by kernel_rfl
@[simp] theorem t162 : T 162 = ⟨.other, 1, 8, [.nilFunc], []⟩ := by kernel_rfl
@[simp] theorem t163 : T 163 = ⟨.other, 1, 8, [.nilFunc], []⟩ := by kernel_rfl
@[simp] theorem t164 : T 164 = ⟨.other, 1, 8, [.nilFunc], []⟩ := by kernel_rfl
@[simp] theorem t165 : T 165 = ⟨.other, 1, 8, [.nilFunc], []⟩ := by kernel_rfl
@[simp] theorem t166 : T 166 = ⟨.other, 1, 8, [.nilFunc], []⟩ := by kernel_rfl
@[simp] theorem t167 : T 167 = ⟨.other, 1, 8, [.nilFunc], []⟩ := by kernel_rfl
@[simp] theorem t168 : T 168 = ⟨.other, 1, 8, [.nilFunc], []⟩ := by kernel_rfl
@[simp] theorem t169 : T 169 = ⟨.other, 1, 8, [.nilFunc], []⟩ := by kernel_rfl
@[simp] theorem t170 : T 170 = ⟨.other, 1, 8, [.nilFunc], []⟩ := by kernel_rfl
@[simp] theorem t171 : T 171 = ⟨.other, 1, 8, [.nilFunc], []⟩ := by kernel_rfl
@[simp] theorem t172 : T 172 = ⟨.other, 1, 8, [.nilFunc], []⟩ := by kernel_rfl
@[simp] theorem t173 : T 173 = ⟨.other, 1, 8, [.nilFunc], []⟩ := by kernel_rfl
@[simp] theorem t174 : T 174 = ⟨.other, 1, 8, [.nilFunc], []⟩ := by kernel_rfl
@[simp] theorem t175 : T 175 = ⟨.other, 1, 8, [.nilFunc], []⟩ := by kernel_rfl
@[simp] theorem t176 : T 176 = ⟨.other, 1, 8, [.nilFunc], []⟩ := by kernel_rfl
@[simp] theorem t177 : T 177 = ⟨.other, 1, 8, [.nilFunc], []⟩ := by kernel_rfl
@[simp] theorem t178 : T 178 = ⟨.other, 1, 8, [.nilFunc], []⟩ := by kernel_rfl
@[simp] theorem t179 : T 179 = ⟨.int .u64, 1, 8, [.int .u64 0], []⟩ := by kernel_rfl
@[simp] theorem t180 : T 180 = ⟨.other, 1, 8, [.nilFunc], []⟩ := by kernel_rfl
@[simp] theorem t181 : T 181 = ⟨.other, 1, 8, [.nilFunc], []⟩ := by kernel_rfl
@[simp] theorem t182 : T 182 = ⟨.other, 1, 8, [.nilFunc], []⟩ := by kernel_rfl
@[simp] theorem t183 : T 183 = ⟨.other, 1, 8, [.nilFunc], []⟩ := by kernel_rfl
@[simp] theorem t184 : T 184 = ⟨.int .i64, 1, 8, [.int .i64 0], []⟩ := by kernel_rfl
@[simp] theorem t186 : T 186 = ⟨.other, 1, 8, [.nilFunc], []⟩ := by kernel_rfl
@[simp] theorem t187 : T 187 = ⟨.other, 1, 8, [.nilFunc], []⟩ := by kernel_rfl
@[simp] theorem t188 : T 188 = ⟨.other, 1, 8, [.nilFunc], []⟩ := by kernel_rfl
@[simp] theorem t190 : T 190 = ⟨.other, 1, 8, [.nilFunc], []⟩ := by kernel_rfl
@[simp] theorem t191 : T 191 = ⟨.other, 1, 8, [.nilFunc], []⟩ := by kernel_rfl
@[simp] theorem t192 : T 192 = ⟨.int .u32, 1, 4, [.int .u32 0], []⟩ := by kernel_rfl
@[simp] theorem t193 : T 193 = ⟨.other, 1, 8, [.nilFunc], []⟩ := by kernel_rfl
@[simp] theorem t194 : T 194 = ⟨.other, 1, 8, [.nilFunc], []⟩ := by kernel_rfl
@[simp] theorem t195 : T 195 = ⟨.other, 1, 8, [.nilFunc], []⟩ := by kernel_rfl
@[simp] theorem t196 : T 196 = ⟨.other, 1, 8, [.nilFunc], []⟩ := by kernel_rfl
@[simp] theorem t197 : T 197 = ⟨.other, 1, 8, [.nilFunc], []⟩ := by kernel_rfl
@[simp] theorem t198 : T 198 = ⟨.other, 1, 8, [.nilFunc], []⟩ := by kernel_rfl
@[simp] theorem t199 : T 199 = ⟨.other, 1, 8, [.nilFunc], []⟩ := by kernel_rfl
@[simp] theorem t200 : T 200 = ⟨.other, 1, 8, [.nilFunc], []⟩ := by kernel_rfl
@[simp] theorem t201 : T 201 = ⟨.int .u64, 1, 8, [.int .u64 0], []⟩ := by kernel_rfl
@[simp] theorem t202 : T 202 = ⟨.other, 1, 8, [.nilFunc], []⟩ := by kernel_rfl
@[simp] theorem t203 : T 203 = ⟨.other, 1, 8, [.nilFunc], []⟩ := by kernel_rfl
@[simp] theorem t204 : T 204 = ⟨.other, 1, 8, [.nilFunc], []⟩ := by kernel_rfl
@[simp] theorem t205 : T 205 = ⟨.ptr 3, 1, 8, [.pointer none], []⟩ := by kernel_rfl
@[simp] theorem t206 : T 206 = ⟨.other, 1, 8, [.nilFunc], []⟩ := by kernel_rfl
@[simp] theorem t207 : T 207 = ⟨.other, 1, 8, [.nilFunc], []⟩ := by kernel_rfl
@[simp] theorem t208 : T 208 = ⟨.other, 1, 8, [.nilFunc], []⟩ := by kernel_rfl
@[simp] theorem t209 : T 209 = ⟨.other, 1, 8, [.nilFunc], []⟩ := by kernel_rfl
@[simp] theorem t210 : T 210 = ⟨.other, 1, 8, [.nilFunc], []⟩ := by kernel_rfl
@[simp] theorem t211 : T 211 = ⟨.other, 1, 8, [.nilFunc], []⟩ := by kernel_rfl
@[simp] theorem t212 : T 212 = ⟨.other, 1, 8, [.nilFunc], []⟩ := by kernel_rfl
@[simp] theorem t213 : T 213 = ⟨.ptr 33, 1, 8, [.pointer none], []⟩ := by kernel_rfl
@[simp] theorem t214 : T 214 = ⟨.ptr 201, 1, 8, [.pointer none], []⟩ := by kernel_rfl
@[simp] theorem t216 : T 216 = ⟨.other, 1, 8, [.nilFunc], []⟩ := by kernel_rfl
@[simp] theorem t217 : T 217 = ⟨.other, 1, 8, [.nilFunc], []⟩ := by kernel_rfl
@[simp] theorem t218 : T 218 = ⟨.other, 1, 8, [.nilFunc], []⟩ := by kernel_rfl
@[simp] theorem t219 : T 219 = ⟨.other, 1, 8, [.nilFunc], []⟩ := by kernel_rfl
@[simp] theorem t220 : T 220 = ⟨.other, 1, 8, [.nilFunc], []⟩ := by kernel_rfl
@[simp] theorem t221 : T 221 = ⟨.other, 1, 8, [.nilFunc], []⟩ := by kernel_rfl
@[simp] theorem t227 : T 227 = ⟨.other, 1, 8, [.nilFunc], []⟩ := by kernel_rfl
@[simp] theorem t228 : T 228 = ⟨.int .u8, 1, 1, [.int .u8 0], []⟩ := by kernel_rfl
@[simp] theorem t229 : T 229 = ⟨.int .u8, 1, 1, [.int .u8 0], []⟩ := by kernel_rfl
@[simp] theorem t230 : T 230 = ⟨.other, 1, 8, [.nilFunc], []⟩ := by kernel_rfl
@[simp] theorem t231 : T 231 = ⟨.ptr 5, 1, 8, [.pointer none], []⟩ := by kernel_rfl
@[simp] theorem t232 : T 232 = ⟨.int .i32, 1, 4, [.int .i32 0], []⟩ := by kernel_rfl
@[simp] theorem t233 : T 233 = ⟨.int .i32, 1, 4, [.int .i32 0], []⟩ := by kernel_rfl
@[simp] theorem t234 : T 234 = ⟨.struct [(0, 12), (1, 12), (2, 192), (3, 228), (4, 5), (5, 5), (6, 229), (7, 230), (8, 231), (9, 232), (10, 233)], 11, 48, [.int .u64 0, .int .u64 0, .int .u32 0, .int .u8 0, .int .u8 0, .int .u8 0, .int .u8 0, .nilFunc, .pointer none, .int .i32 0, .int .i32 0], []⟩ := by kernel_rfl
@[simp] theorem t235 : T 235 = ⟨.struct [(0, 12), (1, 12), (2, 192), (3, 228), (4, 5), (5, 5), (6, 229), (7, 230), (8, 231), (9, 232), (10, 233)], 11, 48, [.int .u64 0, .int .u64 0, .int .u32 0, .int .u8 0, .int .u8 0, .int .u8 0, .int .u8 0, .nilFunc, .pointer none, .int .i32 0, .int .i32 0], []⟩ := by kernel_rfl
end Go.Eng

/-
  The engine, part R: an operation that sees only a part of the objects does what it does where it sees all of them. No condition.
-/
namespace Go.Eng
open Go.RowKit

/-- h sees a part of what H holds. -/
def Part (h H : Obs) : Prop := ∀ id, h id = H id ∨ h id = .absent
def RLe (r r' : Res) : Prop := r.ok → r'.ok ∧ r'.v = r.v ∧ r'.up = r.up

section
variable {P : Program} {T : TypeId → TyI} {h H : Obs}

theorem RLe.refl (r : Res) : RLe r r := fun h => ⟨h, rfl, rfl⟩
theorem RLe.of_eq {r r' : Res} (e : r' = r) : RLe r r' := by subst e; exact .refl _
theorem RLe.fail {r' : Res} : RLe .fail r' := fun h => h.elim

theorem close_part (hp : Part h H) : ∀ (n : Nat) (l : LV) (x : DV), close h n l = some x → close H n l = some x ∧ touch H n l = touch h n l := by
  intro n
  induction n with
  | zero => intro l x e; simp [close] at e
  | succ n ih =>
    intro l x e
    have list : ∀ (cs : List LV) (xs : List DV), optAll (cs.map (close h n)) = some xs → optAll (cs.map (close H n)) = some xs ∧ cs.flatMap (touch H n) = cs.flatMap (touch h n) := by
      intro cs
      induction cs with
      | nil => intro xs e; exact ⟨e, rfl⟩
      | cons c cs ihc =>
        intro xs e
        simp only [List.map_cons] at e
        cases q : close h n c with
        | none => rw [q] at e; cases e
        | some y =>
          rw [q] at e
          simp only [optAll, Option.map_eq_some_iff] at e
          obtain ⟨ys, e, rfl⟩ := e
          obtain ⟨i1, i2⟩ := ihc ys e
          obtain ⟨j1, j2⟩ := ih c y q
          simp only [List.map_cons, j1, optAll, i1, Option.map_some, List.flatMap_cons, i2, j2, and_self]
    cases l with
    | d y => exact ⟨e, rfl⟩
    | agg cs =>
      simp only [close, Option.map_eq_some_iff] at e
      obtain ⟨xs, e, rfl⟩ := e
      obtain ⟨i1, i2⟩ := list cs xs e
      simp [close, touch, i1, i2]
    | fn f cs =>
      simp only [close, Option.map_eq_some_iff] at e
      obtain ⟨xs, e, rfl⟩ := e
      obtain ⟨i1, i2⟩ := list cs xs e
      simp [close, touch, i1, i2]
    | ow id k m =>
      simp only [close] at e
      rcases hp id with q | q
      · rw [q] at e; exact ⟨e, rfl⟩
      · rw [q] at e; cases e
    | bx id off =>
      simp only [close] at e
      rcases hp id with q | q
      · rw [q] at e
        cases q2 : H id with
        | box fz cs =>
          rw [q2] at e
          simp only [Option.map_eq_some_iff] at e
          obtain ⟨xs, e, rfl⟩ := e
          obtain ⟨i1, i2⟩ := list _ xs e
          refine ⟨by simp only [close, q2]; rw [i1]; rfl, by simp only [touch, q, q2]; rw [i2]⟩
        | _ => rw [q2] at e; cases e
      · rw [q] at e; cases e
    | nl => exact ⟨e, rfl⟩
    | mp id =>
      simp only [close] at e
      rcases hp id with q | q
      · rw [q] at e; exact ⟨e, rfl⟩
      · rw [q] at e; cases e
    | rp | it | tup | when | junk => simp [close] at e
theorem closes_part (hp : Part h H) (n : Nat) : ∀ {cs : List LV} {xs : List DV}, optAll (cs.map (close h n)) = some xs → optAll (cs.map (close H n)) = some xs ∧ cs.flatMap (touch H n) = cs.flatMap (touch h n) := by
  intro cs
  induction cs with
  | nil => intro xs e; exact ⟨e, rfl⟩
  | cons c cs ihc =>
    intro xs e
    simp only [List.map_cons] at e
    cases q : close h n c with
    | none => rw [q] at e; cases e
    | some y =>
      rw [q] at e
      simp only [optAll, Option.map_eq_some_iff] at e
      obtain ⟨ys, e, rfl⟩ := e
      obtain ⟨i1, i2⟩ := ihc e
      obtain ⟨j1, j2⟩ := close_part hp n c y q
      simp only [List.map_cons, j1, optAll, i1, Option.map_some, List.flatMap_cons, i2, j2, and_self]
theorem closes_live (n : Nat) {cs : List LV} {xs : List DV} (e : optAll (cs.map (close H n)) = some xs) : ∀ id ∈ cs.flatMap (touch H n), (H id).live = true := by
  intro id hid
  obtain ⟨h1, h2⟩ := optAll_map e
  obtain ⟨c, hc, hid⟩ := List.mem_flatMap.1 hid
  obtain ⟨i, hi, rfl⟩ := List.getElem_of_mem hc
  exact close_live n _ _ (h2 i _ (xs[i]'(by omega)) (List.getElem?_eq_getElem hi) (List.getElem?_eq_getElem (by omega))) id hid
theorem live_part (hp : Part h H) {id : Nat} (hl : (h id).live = true) : H id = h id := by
  rcases hp id with q | q
  · exact q.symm
  · rw [q] at hl; cases hl
theorem solid_part (hp : Part h H) {l : LV} (hs : solid h l = true) : solid H l = true := by
  cases l <;> simp only [solid] at * <;> first | exact hs | (rw [live_part hp hs]; exact hs)
theorem freezes_part (hp : Part h H) {ids : List Nat} (hl : ∀ id ∈ ids, (h id).live = true) : freezes H ids = freezes h ids := by
  unfold freezes
  exact List.map_congr_left fun id hid => by rw [live_part hp (hl id hid)]
theorem freezes_closed (hp : Part h H) {l : LV} {x : DV} (e : close h 8 l = some x) : freezes H (touch h 8 l) = freezes h (touch h 8 l) := freezes_part hp fun id hid => close_live 8 l x e id hid
theorem elemsOf_part (hp : Part h H) {l : LV} {ys : List DV} (e : elemsOf h l = some ys) : elemsOf H l = some ys := by
  unfold elemsOf at *
  split at e <;> try exact e
  rename_i id k n
  rcases hp id with q | q
  · rw [← q]; exact e
  · rw [q] at e; cases e
theorem elemsS_part (hp : Part h H) {l : LV} {ys : List DV} (e : elemsS h l = some ys) : elemsS H l = some ys := by
  unfold elemsS at *
  split at e
  · cases e
  · exact elemsOf_part hp e

theorem load_part (hp : Part h H) (t : TyI) (x : LV) : RLe (evalLoad h t x) (evalLoad H t x) := by
  unfold evalLoad
  split
  · rename_i id off; rcases hp id with q | q <;> rw [q] <;> first | exact .refl _ | exact .fail
  · exact .refl _
  · rename_i id k j; rcases hp id with q | q <;> rw [q] <;> first | exact .refl _ | exact .fail
  · exact .refl _
theorem store_part (hp : Part h H) (t : TyI) (x y : LV) : RLe (evalStore h t x y) (evalStore H t x y) := by
  cases x with
  | bx id off =>
    simp only [evalStore]
    rcases hp id with q | q
    · rw [q]
      cases q2 : H id with
      | box fz cs => cases fz with
        | false => exact fun hok => ⟨⟨hok.1, hok.2.1, solid_part hp hok.2.2⟩, rfl, rfl⟩
        | true => exact .fail
      | _ => exact .fail
    · rw [q]; exact .fail
  | rp id k j =>
    simp only [evalStore]
    rcases hp id with q | q
    · rw [q]
      cases q2 : H id with
      | row fz s xs => cases fz with
        | false =>
          simp only
          cases q3 : close h 8 y with
          | none => exact .fail
          | some z =>
            obtain ⟨c1, c2⟩ := close_part hp 8 y z q3
            rw [c1]
            simp only [c2, freezes_closed hp q3]
            exact .refl _
        | true => exact .fail
      | _ => exact .fail
    · rw [q]; exact .fail
  | _ => exact .refl _
theorem build_part (hp : Part h H) (t : TypeId) (ps : List (Nat × LV)) : RLe (evalBuild T h t ps) (evalBuild T H t ps) := by
  unfold evalBuild
  split
  · split
    · exact fun hok => ⟨fun p hpp => solid_part hp (hok p hpp), rfl, rfl⟩
    · exact .refl _
  · split
    · exact fun hok => ⟨fun p hpp => solid_part hp (hok p hpp), rfl, rfl⟩
    · exact .refl _
  · exact .refl _
theorem buildSlice_part (hp : Part h H) {dst : Nat} (hd : h dst = H dst) (t : TypeId) (n : Nat) (ps : List (Nat × LV)) : RLe (evalBuildSlice T h dst t n ps) (evalBuildSlice T H dst t n ps) := by
  unfold evalBuildSlice
  split
  · have e : ∀ H : Obs, (ps.map fun p => close H 8 p.2) = (ps.map (·.2)).map (close H 8) := fun H => by rw [List.map_map]; rfl
    have e2 : ∀ H : Obs, (ps.flatMap fun p => touch H 8 p.2) = (ps.map (·.2)).flatMap (touch H 8) := fun H => by rw [List.flatMap_map]
    cases q : optAll (ps.map fun p => close h 8 p.2) with
    | none => exact .fail
    | some xs =>
      rw [e] at q
      obtain ⟨c1, c2⟩ := closes_part hp 8 q
      rw [e, c1]
      have hl := closes_live 8 q
      simp only [e2, c2, freezes_part hp hl, hd]
      exact .refl _
  · exact .refl _
theorem field_part (hp : Part h H) (s : TypeId) (x : LV) (f : Nat) : RLe (evalField T h s x f) (evalField T H s x f) := by
  unfold evalField
  split
  · split
    · split
      · exact fun hok => ⟨⟨hok.1, by rw [live_part hp hok.2]; exact hok.2⟩, rfl, rfl⟩
      · exact fun hok => ⟨⟨hok.1, by rw [live_part hp hok.2]; exact hok.2⟩, rfl, rfl⟩
      · exact .refl _
      · exact .refl _
    · exact .refl _
  · exact .refl _
theorem indexAddr_part (hp : Part h H) (t : TypeId) (x i : LV) : RLe (evalIndexAddr T h t x i) (evalIndexAddr T H t x i) := by
  unfold evalIndexAddr
  split
  · exact .refl _
  · rename_i e id k n _ _ _
    rcases hp id with q | q <;> rw [q] <;> first | exact .refl _ | exact .fail
  · exact fun hok => ⟨⟨hok.1, hok.2.1, by rw [live_part hp hok.2.2]; exact hok.2.2⟩, rfl, rfl⟩
  · exact fun hok => ⟨⟨hok.1, hok.2.1, by rw [live_part hp hok.2.2]; exact hok.2.2⟩, rfl, rfl⟩
  · exact .refl _
  · exact .refl _
theorem slice_part (hp : Part h H) (t : TypeId) (x : LV) (lo hi mx : Option LV) : RLe (evalSlice T h t x lo hi mx) (evalSlice T H t x lo hi mx) := by
  unfold evalSlice
  split
  · exact .refl _
  · exact .refl _
  · rename_i e id k n _
    rcases hp id with q | q <;> rw [q] <;> first | exact .refl _ | exact .fail
  · exact .refl _
  · exact .refl _
theorem append_part (hp : Part h H) {dst : Nat} (hd : h dst = H dst) (t : TypeId) (s x : LV) : RLe (evalAppend T h dst t s x) (evalAppend T H dst t s x) := by
  unfold evalAppend
  cases q0 : (T t).k with
  | slice e =>
    cases q1 : elemsOf h x with
    | none => exact .fail
    | some ys =>
      rw [elemsOf_part hp q1]
      simp only
      cases s with
      | ow id k n => simp only; rcases hp id with q | q <;> rw [q] <;> first | (rw [hd]; exact .refl _) | exact .fail
      | nl => simp only; rw [hd]; exact .refl _
      | _ => exact .fail
  | _ => exact .fail
theorem appendIn_part (hp : Part h H) (t : TypeId) (s x : LV) : RLe (evalAppendIn T h t s x) (evalAppendIn T H t s x) := by
  unfold evalAppendIn
  cases q0 : (T t).k with
  | slice e =>
    cases q1 : elemsOf h x with
    | none => exact .fail
    | some ys =>
      rw [elemsOf_part hp q1]
      cases s with
      | ow id k n => simp only; rcases hp id with q | q <;> rw [q] <;> first | exact .refl _ | exact .fail
      | _ => exact .fail
  | _ => exact .fail
theorem copy_part (hp : Part h H) (t : TypeId) (s x : LV) : RLe (evalCopy T h t s x) (evalCopy T H t s x) := by
  unfold evalCopy
  cases q0 : (T t).k with
  | slice e =>
    cases q1 : elemsOf h x with
    | none => exact .fail
    | some ys =>
      rw [elemsOf_part hp q1]
      cases s with
      | ow id k n => simp only; rcases hp id with q | q <;> rw [q] <;> first | exact .refl _ | exact .fail
      | _ => exact .fail
  | _ => exact .fail
theorem clear_part (hp : Part h H) (t : TypeId) (x : LV) : RLe (evalClear T h t x) (evalClear T H t x) := by
  unfold evalClear
  split
  · rename_i id k n _
    rcases hp id with q | q <;> rw [q] <;> first | exact .refl _ | exact .fail
  · exact .refl _
theorem cut_part (hp : Part h H) (t : TypeId) (x : LV) (lo hi mx : Option LV) : RLe (evalCut T h t x lo hi mx) (evalCut T H t x lo hi mx) := by
  unfold evalCut
  split
  · split
    · exact fun hok => ⟨by have hok' := hok; simp only [Res.cond] at hok' ⊢; rw [live_part hp hok'.2.2.2.2]; exact hok', rfl, rfl⟩
    · exact .refl _
  · exact .refl _
  · exact .refl _
theorem make_part {dst : Nat} (hd : h dst = H dst) (t : TypeId) (n c : LV) : RLe (evalMake T h dst t n c) (evalMake T H dst t n c) := by
  unfold evalMake
  rw [hd]; exact .refl _
theorem cap_part (hp : Part h H) (t : TypeId) (lo c : Nat) (x : LV) : RLe (evalCap T h t lo c x) (evalCap T H t lo c x) := by
  unfold evalCap
  split
  · exact .refl _
  · exact .refl _
  · rename_i id k n _
    rcases hp id with q | q <;> rw [q] <;> first | exact .refl _ | exact .fail
  · exact .refl _
theorem lenL_part (hp : Part h H) {x : LV} {n : Nat} (e : lenL h x = some n) : lenL H x = some n := by
  unfold lenL at *
  split at e <;> try exact e
  split at e
  · rename_i hl
    rw [live_part hp hl]; rw [if_pos hl]; exact e
  · cases e
theorem nil_part (hp : Part h H) (t : TypeId) (e b : Bool) (op : BinOp) (x : LV) : RLe (evalNil T h t e b op x) (evalNil T H t e b op x) := by
  unfold evalNil
  cases q : lenL h x with
  | none => split <;> simp_all <;> exact .fail
  | some n => rw [lenL_part hp q]; exact .refl _
theorem len_part (hp : Part h H) (t : TypeId) (x : LV) : RLe (evalLen T h t x) (evalLen T H t x) := by
  unfold evalLen
  split
  · exact .refl _
  · exact .refl _
  · exact fun hok => ⟨by have hok' := hok; simp only [Res.cond] at hok' ⊢; rw [live_part hp hok']; exact hok', rfl, rfl⟩
  · exact .refl _
  · exact .refl _
  · exact .refl _
  · rename_i id _
    rcases hp id with q | q <;> rw [q] <;> first | exact .refl _ | exact .fail
  · exact .refl _
theorem mapOf_part (hp : Part h H) {x : LV} {p : List DV × List DV} (e : mapOf h x = some p) : mapOf H x = some p := by
  unfold mapOf at *
  split at e <;> try exact e
  rename_i id
  rcases hp id with q | q
  · rw [← q]; exact e
  · rw [q] at e; cases e
theorem lookup_part (hp : Part h H) (t : TypeId) (x i : LV) (ok : Bool) : RLe (evalLookup T h t x i ok) (evalLookup T H t x i ok) := by
  unfold evalLookup
  cases q : mapOf h x with
  | none => split <;> simp_all <;> exact .fail
  | some p => rw [mapOf_part hp q]; exact .refl _
theorem mapUpdate_part (hp : Part h H) (t : TypeId) (m k x : LV) : RLe (evalMapUpdate T h t m k x) (evalMapUpdate T H t m k x) := by
  unfold evalMapUpdate
  split
  · rename_i id _ _ _
    rcases hp id with q | q <;> rw [q] <;> first | exact .refl _ | exact .fail
  · exact .refl _
theorem delete_part (hp : Part h H) (t : TypeId) (m k : LV) : RLe (evalDelete T h t m k) (evalDelete T H t m k) := by
  unfold evalDelete
  split
  · rename_i id _ _
    rcases hp id with q | q <;> rw [q] <;> first | exact .refl _ | exact .fail
  · exact .refl _
theorem argsG_part (hp : Part h H) {σ : List (Nat × Nat)} {shut : List Nat} : ∀ (ls : List LV) (i : Nat) (asl : List LV), argsG h σ shut i ls = some asl → argsG H σ shut i ls = some asl ∧ shutG H shut i ls = shutG h shut i ls ∧ ∀ id ∈ shutG h shut i ls, (h id).live = true
  | [], i, asl, e => ⟨e, rfl, by simp [shutG]⟩
  | l :: r, i, asl, e => by
    simp only [argsG] at e ⊢
    cases q : argsG h σ shut (i + 1) r with
    | none => rw [q] at e; cases e
    | some r' =>
      obtain ⟨h1, h2, h3⟩ := argsG_part hp r (i + 1) r' q
      rw [q] at e
      simp only at e
      rw [h1]
      simp only [shutG, h2]
      by_cases hs : shut.contains i = true
      · rw [if_pos hs, Option.map_eq_some_iff] at e
        obtain ⟨x, hx, rfl⟩ := e
        obtain ⟨c1, c2⟩ := close_part hp 8 l x hx
        simp only [if_pos hs, c1, c2]
        refine ⟨by first | rfl | trivial, by first | rfl | trivial, fun id hid => ?_⟩
        rcases List.mem_append.1 hid with hid | hid
        · exact close_live 8 l x hx id hid
        · exact h3 id hid
      · rw [if_neg hs] at e
        simp only [if_neg hs]
        exact ⟨e, by first | rfl | trivial, fun id hid => h3 id (by simpa using hid)⟩
theorem conv_part (hp : Part h H) (s t : TypeId) (x : LV) : RLe (evalConv T h s t x) (evalConv T H s t x) := by
  unfold evalConv
  split
  · exact .refl _
  · exact .refl _
  · rename_i lx _ _ _ e _ _
    cases q1 : elemsS h lx with
    | none => cases (T e).k <;> try exact .fail
              rename_i k; cases k <;> exact .fail
    | some ys => rw [elemsS_part hp q1]; exact .refl _
  · exact .refl _
theorem retObj_id : ∀ (rs : List RV) (d : Nat), ∀ p ∈ retsObj d rs, ∃ i, p.1 = d + 1000 * i
  | [], d, p, hp => by simp [retsObj] at hp
  | r :: rs, d, p, hp => by
    simp only [retsObj, List.mem_append] at hp
    rcases hp with hp | hp
    · cases r <;> simp [retObj] at hp; exact ⟨0, by rw [hp]; simp⟩
    · obtain ⟨i, hi⟩ := retObj_id rs (d + 1000) p hp
      exact ⟨i + 1, by omega⟩
theorem resObj_id (v : RV) (d : Nat) : ∀ p ∈ resObj d v, ∃ i, p.1 = d + 1000 * i := by
  intro p hp
  cases v with
  | tup rs => exact retObj_id rs d p hp
  | d x => simp [resObj, retObj] at hp
  | own s xs => simp [resObj, retObj] at hp; exact ⟨0, by rw [hp]; simp⟩
theorem call_part (hp : Part h H) (r : Option Orc) {dst : Nat} (hd : ∀ i, h (dst + 1000 * i) = H (dst + 1000 * i)) (f : LV) (args : List LV) : RLe (evalCall P h r dst f args) (evalCall P H r dst f args) := by
  unfold evalCall
  split
  · rename_i fid caps r _
    cases q : optAll ((args ++ caps).map (close h 8)) with
    | none => exact .fail
    | some asl =>
      obtain ⟨c1, c2⟩ := closes_part hp 8 q
      rw [c1]
      have hl := closes_live 8 q
      simp only [c2, freezes_part hp hl]
      exact fun hok => ⟨⟨hok.1, fun p hpp => by obtain ⟨i, hi⟩ := resObj_id r.v dst p hpp; rw [hi, ← hd i, ← hi]; exact hok.2 p hpp⟩, rfl, rfl⟩
  · rename_i fid caps g _
    cases q : argsG h g.σ g.shut 0 (args ++ caps) with
    | none => exact .fail
    | some asl =>
      obtain ⟨h1, h2, h3⟩ := argsG_part hp _ _ _ q
      rw [h1]
      intro hok
      simp only at hok
      obtain ⟨k1, k2, k3, k4, k5, k6⟩ := hok
      have e1 : (g.σ.map fun p => (p.2, renO g.σ (H p.1))) = g.σ.map fun p => (p.2, renO g.σ (h p.1)) := List.map_congr_left fun p hpp => by rw [live_part hp (k2 p hpp)]
      simp only [h2, freezes_part hp h3, e1]
      refine ⟨⟨k1, fun p hpp => by rw [live_part hp (k2 p hpp)]; exact k2 p hpp, k3, k4, fun p hpp => ⟨?_, (k5 p hpp).2⟩, k6⟩, trivial, trivial⟩
      obtain ⟨a1, a2, a3⟩ := k5 p hpp
      have : p.2 = dst + 1000 * ((p.2 - dst) / 1000) := by omega
      rw [this, ← hd, ← this]; exact a1
  · rename_i fid caps Rel fr r _
    cases q : optAll ((args ++ caps).map (close h 8)) with
    | none => exact .fail
    | some asl =>
      obtain ⟨c1, c2⟩ := closes_part hp 8 q
      rw [c1]
      have hl := closes_live 8 q
      simp only [c2, freezes_part hp hl]
      exact fun hok => ⟨⟨hok.1, hok.2.1, fun p hpp => by obtain ⟨i, hi⟩ := resObj_id r.v dst p hpp; rw [hi, ← hd i, ← hi]; exact hok.2.2 p hpp⟩, rfl, rfl⟩
  · rename_i fid caps g _ _
    cases q : argsG h g.σ g.shut 0 (args ++ caps) with
    | none => exact .fail
    | some asl =>
      obtain ⟨h1, h2, h3⟩ := argsG_part hp _ _ _ q
      rw [h1]
      intro hok
      simp only at hok
      obtain ⟨k1, k2, k3, k4, k5, k6⟩ := hok
      have e1 : (g.σ.map fun p => (p.2, renO g.σ (H p.1))) = g.σ.map fun p => (p.2, renO g.σ (h p.1)) := List.map_congr_left fun p hpp => by rw [live_part hp (k2 p hpp)]
      simp only [h2, freezes_part hp h3, e1]
      refine ⟨⟨k1, fun p hpp => by rw [live_part hp (k2 p hpp)]; exact k2 p hpp, k3, k4, fun p hpp => ⟨?_, (k5 p hpp).2⟩, k6⟩, trivial, trivial⟩
      obtain ⟨a1, a2, a3⟩ := k5 p hpp
      have : p.2 = dst + 1000 * ((p.2 - dst) / 1000) := by omega
      rw [this, ← hd, ← this]; exact a1
  · exact .refl _

theorem op_part_le (hp : Part h H) (g : Operand → LV) (r : Option Orc) (o : Oper) (hd : ∀ i, h (o.dst.getD 0 + 1000 * i) = H (o.dst.getD 0 + 1000 * i)) : RLe (evalOp P T h g r o) (evalOp P T H g r o) := by
  have hd0 : h (o.dst.getD 0) = H (o.dst.getD 0) := by simpa using hd 0
  obtain ⟨dst, op, type, pos, after, guard⟩ := o
  cases op <;> simp only [evalOp] <;> simp only at hd hd0 <;> first | exact .refl _ | skip
  case assign x => simp only [Option.getD] at hd0 ⊢; rw [hd0]; exact .refl _
  case alloc t => rw [hd0]; exact .refl _
  case box t x => exact fun hok => ⟨⟨by rw [← hd0]; exact hok.1, solid_part hp hok.2⟩, rfl, rfl⟩
  case build t ps => exact build_part hp _ _
  case buildSlice t n ps => exact buildSlice_part hp hd0 _ _ _
  case load t x => split; exact .refl _; exact load_part hp _ _
  case store t x y => split; exact .refl _; exact store_part hp _ _ _
  case nilCheck x =>
    split
    · exact fun hok => ⟨by have hok' := hok; simp only [Res.cond] at hok' ⊢; rw [live_part hp hok']; exact hok', rfl, rfl⟩
    · exact fun hok => ⟨by have hok' := hok; simp only [Res.cond] at hok' ⊢; rw [live_part hp hok']; exact hok', rfl, rfl⟩
    · exact .refl _
    · exact .refl _
    · exact .refl _
    · exact .refl _
  case convert s t x => exact conv_part hp _ _ _
  case makeFunc fn first cs => cases fn <;> exact .refl _
  case slice t x lo hi mx =>
    split
    · exact .refl _
    · split
      · exact cut_part hp _ _ _ _ _
      · exact slice_part hp _ _ _ _ _
  case binOp op t x y u =>
    split
    · exact .refl _
    · split
      · exact nil_part hp _ _ _ _ _
      · exact .refl _
    · exact .refl _
  case makeSlice t n c => exact make_part hd0 _ _ _
  case fieldAddr s x f => exact field_part hp _ _ _
  case makeMap t r => cases r <;> simp only [] <;> first | exact .refl _ | (unfold evalMakeMap; rw [hd0]; exact .refl _)
  case lookup t x i ok => exact lookup_part hp _ _ _ _
  case mapUpdate t m k x => exact mapUpdate_part hp _ _ _ _
  case range t x =>
    split
    · unfold evalRange
      split
      · rw [hd0]; exact .refl _
      · exact .refl _
    · exact .refl _
  case indexAddr t x i => exact indexAddr_part hp _ _ _
  case call c =>
    obtain ⟨callee, args, ts⟩ := c
    cases callee with
    | value f => exact call_part hp r hd _ _
    | invoke r m => exact .refl _
    | builtin b =>
      simp only
      split
      · exact len_part hp _ _
      · split
        · split
          · exact appendIn_part hp _ _ _
          · exact append_part hp hd0 _ _ _
        · exact .refl _
      · split
        · exact cap_part hp _ _ _ _
        · exact .refl _
      · exact clear_part hp _ _
      · exact copy_part hp _ _ _
      · exact .refl _
      · exact .refl _
      · exact delete_part hp _ _ _
      · exact .refl _

theorem in_part (hp : Part h H) (g : Operand → LV) (r : Option Orc) (o : Oper) (hd : ∀ i, h (o.dst.getD 0 + 1000 * i) = H (o.dst.getD 0 + 1000 * i)) : RLe (evalIn P T h g r o) (evalIn P T H g r o) := by
  unfold evalIn
  split
  · exact .refl _
  · exact op_part_le hp _ r o hd
end
end Go.Eng

/-
  The engine, part S: a region whose order of evaluation is open: one evaluation in the order of the text serves every order. No condition.
-/
namespace Go.Eng
open Go.RowKit

def maskE (hide : List Nat) (H : Obs) : Obs := fun id => if hide.contains (id % 1000) then .absent else H id
def wrIn (wr : List Nat) (p : Nat × LObj) : Bool := wr.contains (p.1 % 1000)
/-- One operation that sees no object of 'hide' and writes none but those of 'wr'. -/
def stepM (P : Program) (T : TypeId → TyI) (N : Nat) (slots : Nat → Option Nat) (orc : Nat → Option Orc) (hide wr : List Nat) (st : LSt) (o : Oper) : LSt :=
  let r := evalG P T slots st.env (maskE hide st.H) (orc (o.dst.getD 0)) o
  { env := putEnv st.env o.dst r.v
    H := upds st.H (r.up.filter (wrIn wr))
    ok := st.ok ∧ r.ok ∧ dstOk N o.dst ∧ ∀ p ∈ r.up, wrIn wr p = true }

section
variable {P : Program} {T : TypeId → TyI} {N : Nat} {w0 : Base} {X : Nat → Prop} {β : Nat → Option Nat} {w : World} {a : Act} {o : Oper}

theorem mask_part (hide : List Nat) (H : Obs) : Part (maskE hide H) H := fun id => by
  unfold maskE
  split
  · exact .inr rfl
  · exact .inl rfl

/-- One operation of a region with a mask, as the walk of the region wants it. -/
theorem stepM_sound (hT : TOk P T) (hW : TWf T) {ops : Array Oper} {slots : Nat → Option Nat} (hsl : ∀ j d, slots j = some d → (ops[j]?).bind (·.dst) = some d ∧ d < N) {r : Option Orc} {hide wr : List Nat} (hd : hide.contains (o.dst.getD 0 % 1000) = false) {st : LSt}
    (s : Sim N w0 X st.env st.H β a w) (hself : Alt r r) (hok : ∀ r', Alt r r' → (stepM P T N slots (fun _ => r') hide wr st o).ok) {K : Act → World → Prop} {Q : Exit → Act → World → Prop}
    (hK : ∀ r', Alt r r' → ∀ a' w' β', Sim N w0 X (stepM P T N slots (fun _ => r') hide wr st o).env (stepM P T N slots (fun _ => r') hide wr st o).H β' a' w' → K a' w') :
    if Region.wanted o (yielded ops a.tmps) then o.wp P a w K Q ∨ (o.asks P a w ∧ LetsOut Q) else K (a.put o.dst undef) w := by
  have hp := mask_part hide st.H
  have hdd : ∀ i, maskE hide st.H (o.dst.getD 0 + 1000 * i) = st.H (o.dst.getD 0 + 1000 * i) := fun i => by
    unfold maskE
    rw [if_neg (by rw [Nat.add_mul_mod_self_left, hd]; simp)]
  have hok2 := fun r' h => (hok r' h).2.1
  have hok4 := fun r' h => (hok r' h).2.2.2
  have hok3 := (hok r hself).2.2.1
  clear hok
  simp only [stepM] at hK hok2 hok4
  have hfil : ∀ l : List (Nat × LObj), (∀ p ∈ l, wrIn wr p = true) → l.filter (wrIn wr) = l := fun l hl => List.filter_eq_self.2 hl
  have hK : ∀ r', Alt r r' → ∀ a' w' β', Sim N w0 X (putEnv st.env o.dst (evalG P T slots st.env (maskE hide st.H) r' o).v) (upds st.H (evalG P T slots st.env (maskE hide st.H) r' o).up) β' a' w' → K a' w' := fun r' h a' w' β' s' => hK r' h a' w' β' (by rw [hfil _ (hok4 r' h)]; exact s')
  cases hg : o.guard with
  | none =>
    have e : ∀ r, evalG P T slots st.env (maskE hide st.H) r o = evalOp P T (maskE hide st.H) (opLV st.env) r o := fun r => by unfold evalG; rw [hg]
    simp only [e] at hK hok2
    have hpl := fun r' h => op_part_le hp (opLV st.env) r' o hdd (hok2 r' h)
    rw [if_pos (by simp [Region.wanted, hg])]
    left
    refine op_sound hT hW s.mem s.get hself (fun r' h => (hpl r' h).1) K Q ?_
    rintro res ⟨r', h', rfl⟩ v w' β' m gg hv
    obtain ⟨_, c2, c3⟩ := hpl r' h'
    refine hK r' h' _ _ β' ?_
    rw [← c2, ← c3]
    exact s.put m gg hv hok3
  | some p =>
    obtain ⟨j, want⟩ := p
    unfold evalG at hK hok2
    simp only [hg] at hK hok2
    have hok20 := hok2 r hself
    split at hok20
    · rename_i ec hec
      simp only [hec] at hK hok2
      obtain ⟨q1, q2⟩ := hok20
      obtain ⟨d, hd1, hd2⟩ := Option.map_eq_some_iff.1 hec
      obtain ⟨hd3, hd4⟩ := hsl j d hd1
      rw [guard_real s hd3 hd4 hd2 hg]
      cases ec with
      | true =>
        simp only [if_true]
        left
        have hpl := fun r' h => in_part hp (opLV st.env) r' o hdd ((hok2 r' h).1 rfl)
        refine in_sound hT hW s.mem s.get hself (fun r' h => (hpl r' h).1) (q2 rfl) K Q ?_
        rintro res ⟨r', h', rfl⟩ v w' β' m gg hv
        obtain ⟨_, c2, c3⟩ := hpl r' h'
        refine hK r' h' _ _ β' ?_
        rw [c3] at m gg hv
        rw [c2] at hv
        exact s.put m gg (.when true _ v (fun _ => hv) (fun h => by cases h)) hok3
      | false =>
        simp only [Bool.false_eq_true, if_false]
        exact hK r hself _ _ β (s.put s.mem Goes.refl (.when false _ undef (fun h => by cases h) (fun _ => rfl)) hok3)
    · exact hok20.elim

theorem opLV_congr {env env' : Env} {ops : Array Oper} (h : ∀ d ∈ o.looksAt ops, env d = env' d) : ∀ x ∈ o.op.operands, opLV env x = opLV env' x := by
  intro x hx
  cases x with
  | tmp t => exact h t (by unfold Oper.looksAt; exact List.mem_append.2 (.inl (List.mem_filterMap.2 ⟨.tmp t, by simpa using hx, rfl⟩)))
  | _ => rfl
theorem guardOps_sub : ∀ x ∈ guardOps o.op, x ∈ o.op.operands := by
  intro x hx
  unfold guardOps at hx
  split at hx
  · rename_i e; simp at hx; rw [e, hx]; simp [Op.operands]
  · simpa using hx
theorem evalIn_congr {h : Obs} {g g' : Operand → LV} {r : Option Orc} (e : ∀ x ∈ o.op.operands, g x = g' x) : evalIn P T h g r o = evalIn P T h g' r o := by
  unfold evalIn
  split
  · rename_i c x y ho
    rw [e c (by rw [ho]; simp [Op.operands]), e x (by rw [ho]; simp [Op.operands]), e y (by rw [ho]; simp [Op.operands])]
  · exact evalOp_congr fun x hx => by rw [e x hx]
theorem evalG_congr {l : List Oper} {env env' : Env} {h : Obs} {r : Option Orc} (e : ∀ d ∈ o.looksAt l.toArray, env d = env' d) : evalG P T (slotsOf N l) env h r o = evalG P T (slotsOf N l) env' h r o := by
  have e1 := opLV_congr e
  unfold evalG
  cases hg : o.guard with
  | none => exact evalOp_congr e1
  | some p =>
    obtain ⟨j, want⟩ := p
    simp only
    have e2 : ((slotsOf N l j).map fun d => guardC want (env d)) = (slotsOf N l j).map fun d => guardC want (env' d) := by
      cases q : slotsOf N l j with
      | none => rfl
      | some d =>
        have hd := (slotsOf_ok N l j d q).1
        have : env d = env' d := e d (by unfold Oper.looksAt; rw [hg]; exact List.mem_append.2 (.inr (by simp only; rw [hd]; simp)))
        simp only [Option.map_some, this]
    rw [e2, evalIn_congr e1]
    have e3 : (∀ x ∈ guardOps o.op, whenC (opLV env x) = true) = ∀ x ∈ guardOps o.op, whenC (opLV env' x) = true := by
      apply propext
      exact ⟨fun h x hx => by rw [← e1 x (guardOps_sub x hx)]; exact h x hx, fun h x hx => by rw [e1 x (guardOps_sub x hx)]; exact h x hx⟩
    rw [e3]

/-- What two operations may not share if their order is open. -/
def sepB (hide1 wr1 hide2 wr2 : List Nat) : Bool := wr1.all (fun x => hide2.contains x && !wr2.contains x) && wr2.all (fun x => hide1.contains x)

theorem upds_filter (H : Obs) (l : List (Nat × LObj)) (wr : List Nat) (id : Nat) (h : wr.contains (id % 1000) = false) : upds H (l.filter (wrIn wr)) id = H id := by
  rw [upds_lookup]
  have : lookupO (l.filter (wrIn wr)) id = none := by
    induction l with
    | nil => rfl
    | cons p r ih =>
      by_cases hp : wrIn wr p = true
      · rw [List.filter_cons_of_pos hp]
        simp only [lookupO]
        rw [if_neg (fun e => by unfold wrIn at hp; rw [← e, h] at hp; cases hp)]
        exact ih
      · rw [List.filter_cons_of_neg hp]; exact ih
  rw [this]; rfl
theorem mask_upds (H : Obs) (l : List (Nat × LObj)) {wr hide : List Nat} (h : ∀ x ∈ wr, hide.contains x = true) : maskE hide (upds H (l.filter (wrIn wr))) = maskE hide H := by
  funext id
  unfold maskE
  by_cases hh : hide.contains (id % 1000) = true
  · rw [if_pos hh, if_pos hh]
  · rw [if_neg hh, if_neg hh]
    refine upds_filter H l wr id ?_
    cases q : wr.contains (id % 1000) with
    | false => rfl
    | true => exact absurd (h _ (by simpa using q)) hh
theorem upds_comm (H : Obs) (l1 l2 : List (Nat × LObj)) {wr1 wr2 : List Nat} (h : ∀ x ∈ wr1, wr2.contains x = false) : upds (upds H (l1.filter (wrIn wr1))) (l2.filter (wrIn wr2)) = upds (upds H (l2.filter (wrIn wr2))) (l1.filter (wrIn wr1)) := by
  funext id
  cases q1 : wr1.contains (id % 1000) with
  | false =>
    rw [upds_filter _ l1 wr1 id q1, upds_lookup _ id, upds_filter H l1 wr1 id q1, upds_lookup _ id]
  | true =>
    have q2 : wr2.contains (id % 1000) = false := h _ (by simpa using q1)
    rw [upds_filter _ l2 wr2 id q2, upds_lookup (l1.filter _) id, upds_lookup (l1.filter _) id, upds_filter H l2 wr2 id q2]
theorem putEnv_comm (env : Env) {d1 d2 : Option Nat} (v1 v2 : LV) (h : ∀ d, d1 = some d → d2 ≠ some d) : putEnv (putEnv env d1 v1) d2 v2 = putEnv (putEnv env d2 v2) d1 v1 := by
  cases d1 with
  | none => rfl
  | some d1 =>
    cases d2 with
    | none => rfl
    | some d2 =>
      have : d1 ≠ d2 := fun e => h d1 rfl (by rw [e])
      funext j
      simp only [putEnv, upd]
      by_cases h1 : j = d1
      · subst h1; rw [if_neg this]; simp
      · rw [if_neg h1, if_neg h1]
theorem putEnv_ne (env : Env) {d1 : Option Nat} (v : LV) {d : Nat} (h : d1 ≠ some d) : putEnv env d1 v d = env d := by
  cases d1 with
  | none => rfl
  | some d1 => simp only [putEnv, upd]; rw [if_neg (fun e => h (by rw [e]))]

theorem stepM_comm {l : List Oper} {orc : Nat → Option Orc} {o1 o2 : Oper} {hide1 wr1 hide2 wr2 : List Nat} (hap : o1.apart l.toArray o2 = true) (hs : sepB hide1 wr1 hide2 wr2 = true) (st : LSt) :
    stepM P T N (slotsOf N l) orc hide2 wr2 (stepM P T N (slotsOf N l) orc hide1 wr1 st o1) o2 = stepM P T N (slotsOf N l) orc hide1 wr1 (stepM P T N (slotsOf N l) orc hide2 wr2 st o2) o1 := by
  obtain ⟨a1, a2, a3⟩ := Oper.apart_spec hap
  simp only [sepB, Bool.and_eq_true, List.all_eq_true] at hs
  obtain ⟨s1, s2⟩ := hs
  have s3 : ∀ x ∈ wr1, hide2.contains x = true := fun x hx => (s1 x hx).1
  have s4 : ∀ x ∈ wr1, wr2.contains x = false := fun x hx => by simpa using (s1 x hx).2
  have e2 : evalG P T (slotsOf N l) (stepM P T N (slotsOf N l) orc hide1 wr1 st o1).env (maskE hide2 (stepM P T N (slotsOf N l) orc hide1 wr1 st o1).H) (orc (o2.dst.getD 0)) o2 = evalG P T (slotsOf N l) st.env (maskE hide2 st.H) (orc (o2.dst.getD 0)) o2 := by
    simp only [stepM]
    rw [mask_upds _ _ s3]
    exact evalG_congr fun d hd => putEnv_ne _ _ (fun e => a1 d e hd)
  have e1 : evalG P T (slotsOf N l) (stepM P T N (slotsOf N l) orc hide2 wr2 st o2).env (maskE hide1 (stepM P T N (slotsOf N l) orc hide2 wr2 st o2).H) (orc (o1.dst.getD 0)) o1 = evalG P T (slotsOf N l) st.env (maskE hide1 st.H) (orc (o1.dst.getD 0)) o1 := by
    simp only [stepM]
    rw [mask_upds _ _ s2]
    exact evalG_congr fun d hd => putEnv_ne _ _ (fun e => a3 d e hd)
  have f : ∀ (hide wr : List Nat) (st : LSt) (o : Oper), stepM P T N (slotsOf N l) orc hide wr st o = { env := putEnv st.env o.dst (evalG P T (slotsOf N l) st.env (maskE hide st.H) (orc (o.dst.getD 0)) o).v, H := upds st.H ((evalG P T (slotsOf N l) st.env (maskE hide st.H) (orc (o.dst.getD 0)) o).up.filter (wrIn wr)), ok := st.ok ∧ (evalG P T (slotsOf N l) st.env (maskE hide st.H) (orc (o.dst.getD 0)) o).ok ∧ dstOk N o.dst ∧ ∀ p ∈ (evalG P T (slotsOf N l) st.env (maskE hide st.H) (orc (o.dst.getD 0)) o).up, wrIn wr p = true } := fun _ _ _ _ => rfl
  rw [f hide2 wr2, f hide1 wr1 (stepM P T N (slotsOf N l) orc hide2 wr2 st o2), e1, e2]
  clear e1 e2
  simp only [stepM]
  clear f
  generalize evalG P T (slotsOf N l) st.env (maskE hide1 st.H) (orc (o1.dst.getD 0)) o1 = r1
  generalize evalG P T (slotsOf N l) st.env (maskE hide2 st.H) (orc (o2.dst.getD 0)) o2 = r2
  congr 1
  · exact putEnv_comm _ _ _ a2
  · exact upds_comm _ _ _ s4
  · refine propext ⟨?_, ?_⟩
    · rintro ⟨⟨h1, h2⟩, h3⟩; exact ⟨⟨h1, h3⟩, h2⟩
    · rintro ⟨⟨h1, h2⟩, h3⟩; exact ⟨⟨h1, h3⟩, h2⟩

/-! ### the operations of a set, in the order of the text -/
def ins (S : Nat → Bool) (i : Nat) : Nat → Bool := fun j => S j || j == i
def foldS (f : LSt → Nat → LSt) (S : Nat → Bool) (st : LSt) : Nat → LSt
  | 0 => st
  | n + 1 => if S n then f (foldS f S st n) n else foldS f S st n
def missS (S : Nat → Bool) : Nat → Nat
  | 0 => 0
  | n + 1 => missS S n + (if S n then 0 else 1)

theorem foldS_congr {f : LSt → Nat → LSt} {S S' : Nat → Bool} {st : LSt} : ∀ n, (∀ j, j < n → S j = S' j) → foldS f S st n = foldS f S' st n
  | 0, _ => rfl
  | n + 1, h => by
    simp only [foldS]
    rw [h n (Nat.lt_succ_self n), foldS_congr n fun j hj => h j (Nat.lt_succ_of_lt hj)]
theorem missS_congr {S S' : Nat → Bool} : ∀ n, (∀ j, j < n → S j = S' j) → missS S n = missS S' n
  | 0, _ => rfl
  | n + 1, h => by
    simp only [missS]
    rw [h n (Nat.lt_succ_self n), missS_congr n fun j hj => h j (Nat.lt_succ_of_lt hj)]
theorem ins_ne {S : Nat → Bool} {i j : Nat} (h : j ≠ i) : ins S i j = S j := by simp [ins, h]
theorem ins_eq {S : Nat → Bool} {i : Nat} : ins S i i = true := by simp [ins]

theorem foldS_ins {f : LSt → Nat → LSt} {S : Nat → Bool} {st : LSt} {i : Nat} (hs : S i = false) : ∀ n, i < n → (∀ j, i < j → j < n → S j = true → ∀ st, f (f st i) j = f (f st j) i) → foldS f (ins S i) st n = f (foldS f S st n) i
  | 0, h, _ => absurd h (Nat.not_lt_zero i)
  | n + 1, h, hc => by
    simp only [foldS]
    by_cases e : n = i
    · subst e
      rw [ins_eq, if_pos rfl, hs, if_neg (by simp), foldS_congr n fun j hj => ins_ne (Nat.ne_of_lt hj)]
    · rw [ins_ne e, foldS_ins hs n (by omega) fun j h1 h2 => hc j h1 (by omega)]
      cases q : S n with
      | true => rw [if_pos rfl, if_pos rfl, hc n (by omega) (by omega) q]
      | false => rfl
theorem missS_ins {S : Nat → Bool} {i : Nat} (hs : S i = false) : ∀ n, i < n → missS (ins S i) n + 1 = missS S n
  | 0, h => absurd h (Nat.not_lt_zero i)
  | n + 1, h => by
    simp only [missS]
    by_cases e : n = i
    · subst e
      rw [ins_eq, if_pos rfl, hs, if_neg (by simp), missS_congr n fun j hj => ins_ne (Nat.ne_of_lt hj)]
    · rw [ins_ne e]
      have := missS_ins hs n (by omega)
      omega
theorem missS_zero {S : Nat → Bool} : ∀ n, missS S n = 0 → ∀ j, j < n → S j = true
  | 0, _, j, h => absurd h (Nat.not_lt_zero j)
  | n + 1, h, j, hj => by
    simp only [missS] at h
    by_cases e : j = n
    · subst e; cases q : S j with | true => rfl | false => rw [q] at h; simp at h
    · exact missS_zero n (by omega) j (by omega)

/-- With all of them it went well, so it went well with some that hold what they need. -/
theorem foldS_ok {f : LSt → Nat → LSt} (hf : ∀ st i, (f st i).ok → st.ok) {cl : Nat → List Nat} {n : Nat} (hcl : ∀ j, j < n → ∀ i ∈ cl j, i < j) (hc : ∀ i j, i < j → j < n → i ∉ cl j → ∀ st, f (f st i) j = f (f st j) i)
    {S : Nat → Bool} (hS : ∀ j, j < n → S j = true → ∀ i ∈ cl j, S i = true) {st : LSt} : ∀ m, m ≤ n → (foldS f (fun j => S j || decide (j < m)) st n).ok → (foldS f S st n).ok
  | 0, _, h => by
    rw [foldS_congr n (S' := S) fun j _ => by simp] at h
    exact h
  | m + 1, hm, h => by
    refine foldS_ok hf hcl hc hS m (by omega) ?_
    cases q : S m with
    | true =>
      rw [foldS_congr n (S' := fun j => S j || decide (j < m + 1)) fun j _ => ?_]
      · exact h
      · by_cases e : j = m
        · subst e; simp [q]
        · have : (j < m + 1) = (j < m) := by apply propext; omega
          simp only [this]
    | false =>
      have e : foldS f (fun j => S j || decide (j < m + 1)) st n = foldS f (ins (fun j => S j || decide (j < m)) m) st n := foldS_congr n fun j _ => by
        unfold ins
        by_cases e : j = m
        · subst e; simp
        · have : (j < m + 1) = (j < m) := by apply propext; omega
          simp only [this]
          simp [e]
      rw [e, foldS_ins (by simp [q]) n (by omega) fun j h1 h2 h3 => hc m j h1 h2 fun hin => ?_] at h
      · exact hf _ _ h
      · simp only [Bool.or_eq_true, decide_eq_true_eq] at h3
        rcases h3 with h3 | h3
        · rw [hS j h2 h3 m hin] at q; cases q
        · omega

/-! ### the region -/
def stepI (P : Program) (T : TypeId → TyI) (N : Nat) (l : List Oper) (orc : Nat → Option Orc) (hide wr : Nat → List Nat) (st : LSt) (i : Nat) : LSt :=
  match l[i]? with
  | some o => stepM P T N (slotsOf N l) orc (hide i) (wr i) st o
  | none => st
/-- What the walk of a region of open order wants of the data given to it: 'cl', what lies behind an operation; 'hide' and 'wr', the objects that it does not see, and those that it makes or changes. -/
def anyChk (l : List Oper) (cl hide wr : Nat → List Nat) : Bool := (List.range l.length).all fun j => match l[j]? with
  | none => true
  | some o =>
    o.after.all (fun e => !Region.binds .any e || decide (e.on < j)) &&
    (cl j).all (fun i => decide (i < j) && o.after.any (fun e => Region.binds .any e && (e.on == i || (cl e.on).contains i))) &&
    !(hide j).contains (o.dst.getD 0 % 1000) &&
    (List.range j).all (fun i => (cl j).contains i || match l[i]? with
      | none => true
      | some o' => o'.apart l.toArray o && sepB (hide i) (wr i) (hide j) (wr j))

section
variable {l : List Oper} {cl hide wr : Nat → List Nat} {orc : Nat → Option Orc}

structure AnyOk (l : List Oper) (cl hide wr : Nat → List Nat) : Prop where
  edge : ∀ j o, l[j]? = some o → ∀ e ∈ o.after, Region.binds .any e = true → e.on < j
  low : ∀ j, j < l.length → ∀ i ∈ cl j, i < j
  clo : ∀ j o, l[j]? = some o → ∀ i ∈ cl j, ∃ e ∈ o.after, Region.binds .any e = true ∧ (e.on = i ∨ i ∈ cl e.on)
  dst : ∀ j o, l[j]? = some o → (hide j).contains (o.dst.getD 0 % 1000) = false
  sep : ∀ i j o' o, i < j → l[i]? = some o' → l[j]? = some o → i ∉ cl j → o'.apart l.toArray o = true ∧ sepB (hide i) (wr i) (hide j) (wr j) = true

theorem anyChk_ok (h : anyChk l cl hide wr = true) : AnyOk l cl hide wr := by
  have k : ∀ j o, l[j]? = some o → _ := fun j o hj => by
    have h' := List.all_eq_true.1 h j (List.mem_range.2 (List.getElem?_eq_some_iff.1 hj).1)
    rw [hj] at h'
    simp only [Bool.and_eq_true] at h'
    exact h'
  refine ⟨fun j o hj e he hb => ?_, fun j hj i hi => ?_, fun j o hj i hi => ?_, fun j o hj => ?_, fun i j o' o hij hi hj hn => ?_⟩
  · have := Array.all_eq_true_iff_forall_mem.1 (k j o hj).1.1.1 e he
    simpa [hb] using this
  · obtain ⟨o, ho⟩ : ∃ o, l[j]? = some o := ⟨_, List.getElem?_eq_getElem hj⟩
    have := List.all_eq_true.1 (k j o ho).1.1.2 i hi
    simp only [Bool.and_eq_true, decide_eq_true_eq] at this
    exact this.1
  · have := List.all_eq_true.1 (k j o hj).1.1.2 i hi
    simp only [Bool.and_eq_true, decide_eq_true_eq] at this
    obtain ⟨p, hp, he⟩ := Array.any_eq_true.1 this.2
    simp only [Bool.and_eq_true, Bool.or_eq_true, beq_iff_eq, List.contains_iff_mem] at he
    exact ⟨_, Array.getElem_mem hp, he.1, he.2⟩
  · simpa using (k j o hj).1.2
  · have := List.all_eq_true.1 (k j o hj).2 i (List.mem_range.2 hij)
    simp only [Bool.or_eq_true, List.contains_iff_mem, hi, Bool.and_eq_true] at this
    exact this.resolve_left hn

theorem stepI_mono (st : LSt) (i : Nat) (h : (stepI P T N l orc hide wr st i).ok) : st.ok := by
  unfold stepI at h
  split at h
  · exact h.1
  · exact h

theorem AnyOk.comm (A : AnyOk l cl hide wr) (i j : Nat) (hij : i < j) (hj : j < l.length) (hn : i ∉ cl j) (st : LSt) :
    stepI P T N l orc hide wr (stepI P T N l orc hide wr st i) j = stepI P T N l orc hide wr (stepI P T N l orc hide wr st j) i := by
  obtain ⟨o, ho⟩ : ∃ o, l[j]? = some o := ⟨_, List.getElem?_eq_getElem hj⟩
  obtain ⟨o', ho'⟩ : ∃ o, l[i]? = some o := ⟨_, List.getElem?_eq_getElem (by omega)⟩
  unfold stepI
  simp only [ho, ho']
  obtain ⟨h1, h2⟩ := A.sep i j o' o hij ho' ho hn
  exact stepM_comm h1 h2 st

def runM (P : Program) (T : TypeId → TyI) (N : Nat) (l : List Oper) (orc : Nat → Option Orc) (hide wr : Nat → List Nat) (st : LSt) : LSt := foldS (stepI P T N l orc hide wr) (fun _ => true) st l.length

theorem foldS_only {f f' : LSt → Nat → LSt} {S : Nat → Bool} {n0 : Nat} {st : LSt} (h : ∀ q, S q = true → q < n0 → ∀ st, f st q = f' st q) : ∀ n, n ≤ n0 → foldS f S st n = foldS f' S st n
  | 0, _ => rfl
  | n + 1, hn => by
    simp only [foldS]
    rw [foldS_only h n (by omega)]
    split
    · rename_i hs; exact h n hs (by omega) _
    · rfl
theorem any_sound (hT : TOk P T) (hW : TWf T) (A : AnyOk l cl hide wr) {st : LSt} {ι : Type} {orcs : ι → Nat → Option Orc} {Φ : ι → Prop} {d0 : Nat} (G : Guess orcs Φ d0) (hc1 : ∀ (i j : Nat) (o o' : Oper), l[i]? = some o → l[j]? = some o' → o.dst.getD 0 = d0 → o'.dst.getD 0 = d0 → i = j) (hok : ∀ i, Φ i → (runM P T N l (orcs i) hide wr st).ok) {Q : Exit → Act → World → Prop}
    (hQ : ∀ i, Φ i → ∀ β a w, Sim N w0 X (runM P T N l (orcs i) hide wr st).env (runM P T N l (orcs i) hide wr st).H β a w → Q .normal a w) :
    ∀ (ι0 : ι), Φ ι0 → ∀ (fuel : Nat) (listed : Array Bool) (β : Nat → Option Nat) (a : Act) (w : World), listed.size = l.length → missS (fun j => listed.getD j false) l.length ≤ fuel → (∀ j, j < l.length → listed.getD j false = true → ∀ i ∈ cl j, listed.getD i false = true) →
      Sim N w0 X (foldS (stepI P T N l (orcs ι0) hide wr) (fun j => listed.getD j false) st l.length).env (foldS (stepI P T N l (orcs ι0) hide wr) (fun j => listed.getD j false) st l.length).H β a w → wpAny P .any l.toArray Q fuel listed a w := by
  have all : ∀ (ι0 : ι), Φ ι0 → ∀ (listed : Array Bool) (β : Nat → Option Nat) (a : Act) (w : World), Region.ready .any l.toArray listed = [] → listed.size = l.length → Sim N w0 X (foldS (stepI P T N l (orcs ι0) hide wr) (fun j => listed.getD j false) st l.length).env (foldS (stepI P T N l (orcs ι0) hide wr) (fun j => listed.getD j false) st l.length).H β a w → Q .normal a w := by
    intro ι0 hΦ listed β a w hr hsz hs
    have : ∀ j, j < l.length → listed.getD j false = true := by
      intro j
      induction j using Nat.strongRecOn with
      | ind j ih =>
        intro hj
        cases q : listed.getD j false with
        | true => rfl
        | false =>
          exfalso
          obtain ⟨o, ho⟩ : ∃ o, l[j]? = some o := ⟨_, List.getElem?_eq_getElem hj⟩
          have : j ∈ Region.ready .any l.toArray listed := mem_ready.2 ⟨by
            simp only [Array.getD_eq_getD_getElem?] at q ⊢
            rw [Array.getElem?_eq_getElem (by omega)] at q ⊢
            exact q, o, by simpa using ho, fun e he hb => ih e.on (A.edge j o ho e he hb) (Nat.lt_trans (A.edge j o ho e he hb) hj)⟩
          rw [hr] at this
          cases this
    rw [foldS_congr (S' := fun _ => true) l.length this] at hs
    exact hQ ι0 hΦ β a w hs
  intro ι0 hΦ fuel
  induction fuel generalizing ι0 with
  | zero =>
    intro listed β a w hsz hm hc hs
    have hr : Region.ready .any l.toArray listed = [] := by
      cases hr : Region.ready .any l.toArray listed with
      | nil => rfl
      | cons i r =>
        exfalso
        have hi : i ∈ Region.ready .any l.toArray listed := by rw [hr]; exact List.mem_cons_self
        obtain ⟨h0, o, ho, _⟩ := mem_ready.1 hi
        have hlt : i < l.length := by have := (Array.getElem?_eq_some_iff.1 ho).1; simpa using this
        have := missS_zero l.length (Nat.le_zero.1 hm) i hlt
        simp only [Array.getD_eq_getD_getElem?] at h0 this
        rw [Array.getElem?_eq_getElem (by omega)] at h0 this
        simp only [Option.getD_some] at h0 this
        rw [h0] at this; cases this
    exact ⟨hr, all ι0 hΦ listed β a w hr hsz hs⟩
  | succ fuel ih =>
    intro listed β a w hsz hm hc hs
    refine ⟨fun hr => all ι0 hΦ listed β a w hr hsz hs, fun i hi => ?_⟩
    obtain ⟨h0, o, ho, hall⟩ := mem_ready.1 hi
    have hlt : i < l.length := by have := (Array.getElem?_eq_some_iff.1 ho).1; simpa using this
    have ho' : l[i]? = some o := by simpa using ho
    have hf : listed.getD i false = false := by
      simp only [Array.getD_eq_getD_getElem?] at h0 ⊢
      rw [Array.getElem?_eq_getElem (by omega)] at h0 ⊢
      exact h0
    have hi' : ∀ k, (listed.setIfInBounds i true).getD k false = ins (fun j => listed.getD j false) i k := by
      intro k
      by_cases e : k = i
      · subst e; rw [ins_eq]; simp [hsz, hlt]
      · rw [ins_ne e]; exact getD_set_ne false (Ne.symm e)
    have hcl : ∀ k ∈ cl i, listed.getD k false = true := by
      intro k hk
      obtain ⟨e, he, hb, hor⟩ := A.clo i o ho' k hk
      have := hall e he hb
      rcases hor with hor | hor
      · rw [← hor]; exact this
      · exact hc e.on (Nat.lt_trans (A.edge i o ho' e he hb) hlt) this k hor
    have hc' : ∀ j, j < l.length → (listed.setIfInBounds i true).getD j false = true → ∀ k ∈ cl j, (listed.setIfInBounds i true).getD k false = true := by
      intro j hj hjl k hk
      rw [hi'] at hjl ⊢
      have : listed.getD k false = true := by
        by_cases e : j = i
        · subst e; exact hcl k hk
        · rw [ins_ne e] at hjl; exact hc j hj hjl k hk
      simp [ins, this]
    have e1 : ∀ ι0 : ι, foldS (stepI P T N l (orcs ι0) hide wr) (fun j => (listed.setIfInBounds i true).getD j false) st l.length = stepI P T N l (orcs ι0) hide wr (foldS (stepI P T N l (orcs ι0) hide wr) (fun j => listed.getD j false) st l.length) i := fun ι0 => by
      rw [foldS_congr (S' := ins (fun j => listed.getD j false) i) l.length fun j _ => hi' j]
      exact foldS_ins hf l.length hlt fun j h1 h2 h3 => A.comm i j h1 h2 fun hin => by
        have := hc j h2 h3 i hin
        rw [hf] at this; cases this
    have okk : ∀ ι0, Φ ι0 → (foldS (stepI P T N l (orcs ι0) hide wr) (fun j => (listed.setIfInBounds i true).getD j false) st l.length).ok := fun ι0 hΦ => by
      refine foldS_ok stepI_mono A.low A.comm hc' l.length (Nat.le_refl _) ?_
      rw [foldS_congr (S' := fun _ => true) l.length fun j hj => by simp [hj]]
      exact hok ι0 hΦ
    have e2 : ∀ ι0 st, stepI P T N l (orcs ι0) hide wr st i = stepM P T N (slotsOf N l) (orcs ι0) (hide i) (wr i) st o := fun ι0 st => by unfold stepI; rw [ho']
    -- a choice for this operation: what was done before does not hang on it
    have key : ∀ r', Alt (orcs ι0 (o.dst.getD 0)) r' → ∃ j, Φ j ∧ (∀ st, stepM P T N (slotsOf N l) (fun _ => r') (hide i) (wr i) st o = stepM P T N (slotsOf N l) (orcs j) (hide i) (wr i) st o) ∧
        foldS (stepI P T N l (orcs ι0) hide wr) (fun j => listed.getD j false) st l.length = foldS (stepI P T N l (orcs j) hide wr) (fun j => listed.getD j false) st l.length := fun r' hr => by
      by_cases hd : o.dst.getD 0 = d0
      · rw [hd] at hr
        obtain ⟨j, hj, e⟩ := G.alt ι0 hΦ r' hr
        refine ⟨j, hj, fun st => by unfold stepM; rw [hd, e], foldS_only (fun q hq hql st => ?_) l.length (Nat.le_refl _)⟩
        have hqi : q ≠ i := fun h => by
          have hq' : listed.getD q false = true := hq
          rw [h, hf] at hq'; cases hq'
        unfold stepI
        cases hoq : l[q]? with
        | none => rfl
        | some oq =>
          have : oq.dst.getD 0 ≠ d0 := fun h => hqi (hc1 q i oq o hoq ho' h hd)
          simp only []
          unfold stepM
          rw [G.base ι0 j hΦ hj _ this]
      · have := (G.det ι0 hΦ _ hd).2 r' hr
        subst this
        exact ⟨ι0, hΦ, fun st => rfl, rfl⟩
    have hself : Alt (orcs ι0 (o.dst.getD 0)) (orcs ι0 (o.dst.getD 0)) := by
      by_cases hd : o.dst.getD 0 = d0
      · rw [hd]; exact G.self ι0 hΦ
      · exact (G.det ι0 hΦ _ hd).1
    have := stepM_sound (P := P) (T := T) hT hW (ops := l.toArray) (slotsOf_ok N l) (A.dst i o ho') hs hself (r := orcs ι0 (o.dst.getD 0)) (fun r' hr => by
        obtain ⟨j, hj, h1, h2⟩ := key r' hr
        have := okk j hj
        rw [e1, e2] at this
        rw [h1, h2]; exact this) (K := wpAny P .any l.toArray Q fuel (listed.setIfInBounds i true)) (Q := Q) fun r' hr a' w' β' s' => by
      obtain ⟨j, hj, h1, h2⟩ := key r' hr
      rw [h1, h2] at s'
      exact ih j hj (listed.setIfInBounds i true) β' a' w' (by simpa using hsz) (by
        rw [missS_congr (S' := ins (fun j => listed.getD j false) i) l.length fun j _ => hi' j]
        have := missS_ins (S := fun j => listed.getD j false) hf l.length hlt
        omega) hc' (by rw [e1, e2]; exact s')
    unfold wpOp
    simp only [ho]
    exact this

theorem Sim.drew {env : Env} {H : Obs} {β : Nat → Option Nat} (s : Sim N w0 X env H β a w) : Sim N w0 X env H β a { w with drawn := w.drawn + 1 } := by
  have hb : Bel w.heap.size w { w with drawn := w.drawn + 1 } := ⟨rfl, rfl, rfl, Nat.le_refl _, fun _ _ => rfl, Nat.le_succ _⟩
  obtain ⟨m, g⟩ := s.mem.grow hb
  exact s.put (dst := none) (v := .slice none 0 0) (l := .junk) m g (.junk _) (by trivial)

theorem slot_top : ∀ l : List Oper, ∃ d0, ∀ o ∈ l, o.dst.getD 0 < d0
  | [] => ⟨0, fun o ho => by cases ho⟩
  | o :: l => by
    obtain ⟨d, hd⟩ := slot_top l
    refine ⟨d + o.dst.getD 0 + 1, fun o' ho' => ?_⟩
    rcases List.mem_cons.1 ho' with h | h
    · rw [h]; exact Nat.lt_succ_of_le (Nat.le_add_left _ _)
    · exact Nat.lt_of_lt_of_le (hd o' h) (Nat.le_succ_of_le (Nat.le_add_right _ _))
/-- A region whose order is open: if the check passes, one evaluation in the order of the text, each operation blind to what the others of its rank do. -/
theorem LWp.regAnyG (hT : TOk P T) (hW : TWf T) (hm : P.follows .mixedOrders = true) {id : Nat} {Q : LX → Env → Obs → Prop} {env : Env} {H : Obs} (cl hide wr : Nat → List Nat) (hA : anyChk l cl hide wr = true) {ι : Type} {orcs : ι → Nat → Option Orc} {Φ : ι → Prop} {d0 : Nat} (G : Guess orcs Φ d0) (i0 : ι) (h0 : Φ i0)
    (hc1 : ∀ (i j : Nat) (o o' : Oper), l[i]? = some o → l[j]? = some o' → o.dst.getD 0 = d0 → o'.dst.getD 0 = d0 → i = j)
    (h : ∀ i, Φ i → (runM P T N l (orcs i) hide wr ⟨env, H, True⟩).ok ∧ Q .normal (runM P T N l (orcs i) hide wr ⟨env, H, True⟩).env (runM P T N l (orcs i) hide wr ⟨env, H, True⟩).H) :
    LWp P N w0 X (.region id l.toArray true) Q env H := by
  intro β a w s
  refine wp_region_any hm ?_
  have e0 : ∀ n, foldS (stepI P T N l (orcs i0) hide wr) (fun j => (Array.replicate l.toArray.size false).getD j false) ⟨env, H, True⟩ n = ⟨env, H, True⟩ := fun n => by
    induction n with
    | zero => rfl
    | succ n ih => simp only [foldS]; rw [if_neg (by simp [Array.getElem?_replicate]; split <;> rfl)]; exact ih
  refine any_sound hT hW (anyChk_ok hA) G hc1 (fun i hi => (h i hi).1) (fun i hi β' a' w' s' => ⟨.normal, _, _, β', trivial, s', (h i hi).2⟩) i0 h0 _ _ β a _ (by simp) ?_ (fun j _ hj => ?_) ?_
  · have : ∀ S n, missS S n ≤ n := fun S n => by
      induction n with
      | zero => exact Nat.le_refl 0
      | succ n ih => simp only [missS]; split <;> omega
    simpa using this _ l.length
  · exfalso; simp [Array.getElem?_replicate] at hj; split at hj <;> cases hj
  · rw [e0]; exact s.drew
theorem LWp.regAny (hT : TOk P T) (hW : TWf T) (hm : P.follows .mixedOrders = true) {id : Nat} {Q : LX → Env → Obs → Prop} {env : Env} {H : Obs} (cl hide wr : Nat → List Nat) (hA : anyChk l cl hide wr = true) (orc : Nat → Option Orc) (hdet : ∀ d, DetS (orc d))
    (h : (runM P T N l orc hide wr ⟨env, H, True⟩).ok ∧ Q .normal (runM P T N l orc hide wr ⟨env, H, True⟩).env (runM P T N l orc hide wr ⟨env, H, True⟩).H) :
    LWp P N w0 X (.region id l.toArray true) Q env H := by
  -- a slot that no operation writes
  obtain ⟨d0, hd0⟩ := slot_top l
  exact LWp.regAnyG hT hW hm cl hide wr hA (ι := Unit) (orcs := fun _ => orc) (Φ := fun _ => True) (d0 := d0) ⟨fun _ _ _ _ _ _ => rfl, fun _ _ d _ => hdet d, fun _ _ => (hdet _).1, fun _ _ r' hr => ⟨(), trivial, ((hdet _).2 r' hr).symm⟩⟩ () trivial
    (fun i j o o' h1 h2 h3 _ => absurd h3 (Nat.ne_of_lt (hd0 o (List.mem_of_getElem? h1)))) fun _ _ => h
theorem LWp.regAny1 (hT : TOk P T) (hW : TWf T) (hm : P.follows .mixedOrders = true) {id : Nat} {Q : LX → Env → Obs → Prop} {env : Env} {H : Obs} (cl hide wr : Nat → List Nat) (hA : anyChk l cl hide wr = true) {ι : Type} (d0 : Nat) (base : Nat → Option Orc) (g : ι → Orc) (Φ : ι → Prop)
    (hdet : ∀ d, DetS (base d)) (hs : ∀ i, Φ i → Alt (some (g i)) (some (g i))) (ha : ∀ i, Φ i → ∀ r', Alt (some (g i)) r' → ∃ j, Φ j ∧ some (g j) = r') (i0 : ι) (h0 : Φ i0)
    (hc1 : ((List.range l.length).filter fun i => match l[i]? with | some o => o.dst.getD 0 == d0 | none => false).length ≤ 1)
    (h : ∀ i, Φ i → (runM P T N l (gorc d0 base g i) hide wr ⟨env, H, True⟩).ok ∧ Q .normal (runM P T N l (gorc d0 base g i) hide wr ⟨env, H, True⟩).env (runM P T N l (gorc d0 base g i) hide wr ⟨env, H, True⟩).H) :
    LWp P N w0 X (.region id l.toArray true) Q env H := by
  refine LWp.regAnyG hT hW hm cl hide wr hA (gorc_guess hdet hs ha) i0 h0 (fun i j o o' h1 h2 h3 h4 => ?_) h
  have hi : i ∈ (List.range l.length).filter fun i => match l[i]? with | some o => o.dst.getD 0 == d0 | none => false := List.mem_filter.2 ⟨List.mem_range.2 (List.getElem?_eq_some_iff.1 h1).1, by simp [h1, h3]⟩
  have hj : j ∈ (List.range l.length).filter fun i => match l[i]? with | some o => o.dst.getD 0 == d0 | none => false := List.mem_filter.2 ⟨List.mem_range.2 (List.getElem?_eq_some_iff.1 h2).1, by simp [h2, h4]⟩
  have : ∀ (L : List Nat), L.length ≤ 1 → i ∈ L → j ∈ L → i = j := fun L hL h1 h2 => by
    match L, hL, h1, h2 with
    | [x], _, h1, h2 => exact (List.mem_singleton.1 h1).trans (List.mem_singleton.1 h2).symm
  exact this _ hc1 hi hj

end
end
end Go.Eng

/-
  The engine, part T: rules in the shape that simp serves; two results. No condition.
-/
namespace Go.Eng
open Go.RowKit

/-- A list of lists, looked up. -/
def lk (l : List (List Nat)) (j : Nat) : List Nat := l.getD j []

section
variable {P : Program} {T : TypeId → TyI} {N : Nat} {w0 : Base} {X : Nat → Prop} {Q : LX → Env → Obs → Prop} {env env' env'' : Env} {H H' H'' : Obs}

/-- A branch, with both arms as one goal. -/
def condQ (l : LV) (A B : Prop) : Prop := match l with
  | .d (.bool b) => (b = true → A) ∧ (b = false → B)
  | _ => False
theorem condQ_bool {b : Bool} {A B : Prop} : condQ (.d (.bool b)) A B ↔ (b = true → A) ∧ (b = false → B) := Iff.rfl
theorem LWp.iff {c : Operand} {x y : Code} (h : condQ (opLV env c) (LWp P N w0 X x Q env H) (LWp P N w0 X y Q env H)) : LWp P N w0 X (.cond c x y) Q env H := by
  unfold condQ at h
  split at h
  · rename_i b e
    exact .cond e h.1 h.2
  · exact h.elim

/-- The state is written out anew: slots 'keep', objects renamed by σ. -/
theorem Weak.to (keep : List Nat) (σ : List (Nat × Nat)) (hσ : (σ.map (·.2)).Nodup) (hσ1 : (σ.map (·.1)).Nodup) (hpin : ∀ id ∈ w0.pins, lookN σ id = some id) (hE : mkEnv (keep.map fun t => (t, ren σ 8 (env t))) = env') (hH : mkObs (σ.map fun p => (p.2, renO σ (H p.1))) = H') : Weak w0 env H env' H' := by
  subst hE; subst hH
  exact Weak.shrink keep σ hσ hσ1 hpin

/-- What a round of a loop has to end in. -/
def loopQ (w0 : Base) {ι : Type} (E : ι → Env) (O : ι → Obs) (I : ι → Prop) (μ : ι → Nat) (i : ι) (env' : Env) (H' : Obs) : Prop := ∃ j, Weak w0 env' H' (E j) (O j) ∧ I j ∧ μ j < μ i
theorem loopQ.mk {ι : Type} {E : ι → Env} {O : ι → Obs} {I : ι → Prop} {μ : ι → Nat} {i : ι} (j : ι) (hw : Weak w0 env H (E j) (O j)) (hI : I j) (hμ : μ j < μ i) : loopQ w0 E O I μ i env H := ⟨j, hw, hI, hμ⟩
/-- What a function has to end in. -/
def retQ (t : Nat) (fresh : Bool) (r : RV) (x : LX) (env : Env) (H : Obs) : Prop := (match x with | .exit _ => False | _ => True) ∧ RetIs H fresh (env t) r
def retQ2 (t u : Nat) (fresh : Bool) (r : RV) (y : DV) (x : LX) (env : Env) (H : Obs) : Prop := (match x with | .exit _ => False | _ => True) ∧ RetIs H fresh (env t) r ∧ RetIs H fresh (env u) (.d y)
theorem retQ_ret {t : Nat} {fresh : Bool} {r : RV} : retQ t fresh r .ret env H ↔ RetIs H fresh (env t) r := by simp [retQ]
theorem retQ2_ret {t u : Nat} {fresh : Bool} {r : RV} {y : DV} : retQ2 t u fresh r y .ret env H ↔ RetIs H fresh (env t) r ∧ RetIs H fresh (env u) (.d y) := by simp [retQ2]

/-- A loop, entered from and closed by a state that says more. -/
theorem LWp.loopW {c : Code} {ι : Type} (E : ι → Env) (O : ι → Obs) (I : ι → Prop) (μ : ι → Nat) (i : ι) (he : Weak w0 env H (E i) (O i)) (h0 : I i)
    (round : ∀ i, I i → LWp P N w0 X c (seqQ (loopQ w0 E O I μ i) Q) (E i) (O i)) : LWp P N w0 X (.loop c) Q env H := by
  refine LWp.weak he ?_
  intro β a w s
  have key : ∀ n i, μ i = n → I i → ∀ β a w, Sim N w0 X (E i) (O i) β a w → (Code.loop c).wp P (fun e a' w' => ∃ x env' H' β', exitIs e x ∧ Sim N w0 X env' H' β' a' w' ∧ Q x env' H') a w := by
    intro n i hn hI β a w s
    refine wp_loop_rel (fun n a w => ∃ i β, μ i = n ∧ I i ∧ Sim N w0 X (E i) (O i) β a w) n ⟨i, β, hn, hI, s⟩ fun n' a' w' ⟨i', β', h1, h2, h3⟩ => ?_
    refine wp_mono (round i' h2 β' a' w' h3) ?_
    rintro e a2 w2 ⟨lx, env', H', β2, g1, g2, g3⟩
    cases e <;> cases lx <;> simp only [exitIs] at g1
    · obtain ⟨j, e1, e3, e4⟩ := g3
      obtain ⟨β3, s3⟩ := e1 _ _ _ _ _ g2
      exact ⟨μ j, by omega, j, β3, rfl, e3, s3⟩
    · subst g1; exact ⟨.exit _, env', H', β2, rfl, g2, g3⟩
    · exact ⟨.ret, env', H', β2, trivial, g2, g3⟩
  exact key _ i rfl h0 β a w s

theorem RVok.anti {w w' : World} {E E' : Nat → Prop} (hE : ∀ k, E' k → E k) {B : Option Nat} {r : RV} {v : Value} (h : RVok w w' E B r v) : RVok w w' E' B r v := by
  cases r with
  | d x => exact RD.anti hE h
  | own s xs =>
    obtain ⟨h1, h2, h3⟩ := h
    refine ⟨h1, h2, ?_⟩
    rcases h3 with h3 | ⟨b, c, cur, e, g1, g2, g3, g4, g5, g6, g7, g8⟩
    · exact .inl h3
    · exact .inr ⟨b, c, cur, e, g1, g2, g3, g4, g5, g6, g7, fun i d v hd hv => ⟨(g8 i d v hd hv).1, (g8 i d v hd hv).2.anti hE⟩⟩
  | tup _ => exact h

/-- Two results, of which the second one looks at no memory. -/
theorem Ok.two {f : FuncId} {fn : Func} {c : Code} {args : List DV} {r1 : RV} {y : DV} {fresh : Bool} {n t u : Nat} (hf : P.funcs[f]? = some fn) (hname : (fn.name == "runtime.NumGoroutine") = false) (hb : fn.body = some c) (hn : fn.ntmps = n) (hargs : args.length ≤ n) (hres : fn.results = #[.tmp t, .tmp u])
    (hy : memless y = true) (h : ∀ w0 X, w0.pins = [] → LWp P n w0 X c (retQ2 t u fresh r1 y) (argsEnv args) (mkObs [])) : Ok P f args ⟨.tup [r1, .d y], fresh⟩ := by
  refine Ok.of_body hf hname hb hn hargs fun w0 X hpn => (h w0 X hpn).mono fun x env H ⟨h1, h2, h3⟩ => ⟨h1, fun β a w s => ⟨_, results_tmp2 hres _ _ _, ?_⟩⟩
  obtain ⟨B, hB⟩ := ret_one hpn s (s.env t) h2
  obtain ⟨B', hB'⟩ := ret_one hpn s (s.env u) h3
  refine ⟨[a.tmps.getD t undef, a.tmps.getD u undef], fun i => if i = 0 then B else none, rfl, rfl, fun i j b hi hj => ?_, fun i r v hr hv => ?_⟩
  · simp only at hi hj
    by_cases h1 : i = 0
    · by_cases h2 : j = 0
      · omega
      · rw [if_neg h2] at hj; cases hj
    · rw [if_neg h1] at hi; cases hi
  · match i, hr, hv with
    | 0, hr, hv =>
      injection hr with hr; injection hv with hv
      subst hr; subst hv
      simp only [if_pos]
      refine RVok.anti (fun k hk => ?_) hB
      rcases hk with hk | ⟨j, hj⟩
      · exact .inl hk
      · by_cases h2 : j = 0
        · rw [if_pos h2] at hj; exact .inr hj
        · rw [if_neg h2] at hj; cases hj
    | 1, hr, hv =>
      injection hr with hr; injection hv with hv
      subst hr; subst hv
      simp only [RVok] at hB' ⊢
      exact hB'.memless hy

theorem Ok.ret {f : FuncId} {fn : Func} {c : Code} {args : List DV} {r : RV} {fresh : Bool} {n t : Nat} (hf : P.funcs[f]? = some fn) (hname : (fn.name == "runtime.NumGoroutine") = false) (hb : fn.body = some c) (hn : fn.ntmps = n) (hargs : args.length ≤ n) (hres : fn.results = #[.tmp t])
    (hrt : ∀ rs, r ≠ .tup rs) (h : ∀ w0 X, w0.pins = [] → LWp P n w0 X c (retQ t fresh r) (argsEnv args) (mkObs [])) : Ok P f args ⟨r, fresh⟩ := Ok.one hf hname hb hn hargs hres hrt h

/-! ### results that lie in variables -/
def loadR (T : TypeId → TyI) (H : Obs) (ty : TypeId) (l : LV) : Res := match l with
  | .bx id 0 => match H id with
    | .box _ cs => .cond (takeL (T ty).k.agg (T ty).size 0 cs) ((T ty).k.isNone = false ∧ (T ty).size ≤ cs.length ∧ ((T ty).k.agg = false → (T ty).size = 1))
    | _ => .fail
  | _ => .fail
theorem loadR_sound (hT : TOk P T) {β : Nat → Option Nat} {a : Act} {w : World} (s : Sim N w0 X env H β a w) {t : Nat} {ty : TypeId} (hok : (loadR T H ty (env t)).ok) :
    ∃ v, (((asAddr (a.tmps.getD t undef)).run P w).andThen fun a w => (loadVar ty a).run P w) = .ok v w ∧ R w (Ex X β H) β H (loadR T H ty (env t)).v v := by
  have hx := s.env t
  generalize env t = l at *
  unfold loadR at *
  split at hok
  · rename_i id
    split at hok
    · rename_i fz cs hH
      simp only [Res.cond] at hok ⊢
      obtain ⟨ht, hle, hs⟩ := hok
      have hob := s.obj id
      simp only [ObjR, hH] at hob
      obtain ⟨b, e, us, hb, hblk, hlen, h1, hp⟩ := hob
      generalize hval : a.tmps.getD t undef = vx at hx
      cases hx with
      | bx _ _ b' _ _ _ hb' =>
        rw [hb] at hb'; injection hb' with hb'; subst hb'
        have := run_loadVar (P := P) (w := w) (b := b) (off := 0) (us := (us.drop 0).take (T ty).size) hT ht (by simp; omega) hs (fun j u hu => by
          rw [cell_of_row w b _ us.toArray e (0, 0) hblk]
          rw [List.getElem?_take] at hu
          split at hu
          · simpa using hu
          · cases hu)
        refine ⟨_, ?_, takeL_R hlen.symm h1 (by omega) hs hp⟩
        simp only [asAddr, Sem.run_pure, Result.andThen_ok, this]
      | bxdead _ _ _ hd => rw [hH] at hd; cases hd
    · exact hok.elim
  · exact hok.elim

def retC (T : TypeId → TyI) (t : Nat) (ty : TypeId) (fresh : Bool) (r : RV) (x : LX) (env : Env) (H : Obs) : Prop := (match x with | .exit _ => False | _ => True) ∧ (loadR T H ty (env t)).ok ∧ RetIs H fresh (loadR T H ty (env t)).v r
theorem retC_ret {T : TypeId → TyI} {t : Nat} {ty : TypeId} {fresh : Bool} {r : RV} : retC T t ty fresh r .ret env H ↔ (loadR T H ty (env t)).ok ∧ RetIs H fresh (loadR T H ty (env t)).v r := by simp [retC]
theorem Ok.cell (hT : TOk P T) {f : FuncId} {fn : Func} {c : Code} {args : List DV} {r : RV} {fresh : Bool} {n t : Nat} {ty : TypeId} (hf : P.funcs[f]? = some fn) (hname : (fn.name == "runtime.NumGoroutine") = false) (hb : fn.body = some c) (hn : fn.ntmps = n) (hargs : args.length ≤ n) (hres : fn.results = #[.cell t ty])
    (hrt : ∀ rs, r ≠ .tup rs) (h : ∀ w0 X, w0.pins = [] → LWp P n w0 X c (retC T t ty fresh r) (argsEnv args) (mkObs [])) : Ok P f args ⟨r, fresh⟩ := by
  refine Ok.of_body hf hname hb hn hargs fun w0 X hpn => (h w0 X hpn).mono fun x env H ⟨h1, h2, h3⟩ => ⟨h1, fun β a w s => ?_⟩
  obtain ⟨v, hv, hr⟩ := loadR_sound hT s h2
  refine ⟨v, ?_, ?_⟩
  · simp only [results, hres]
    simpa [Sem.run_bind, Result.andThen] using hv
  obtain ⟨B, hB⟩ := ret_one hpn s hr h3
  cases q : r with
  | tup rs => exact absurd q (hrt rs)
  | d x => rw [q] at hB; exact ⟨B, hB⟩
  | own sz xs => rw [q] at hB; exact ⟨B, hB⟩

/-! ### for simp -/
section
variable {n k off id j m : Nat} {cs : List LV} {f : FuncId} {x : DV} {σ : List (Nat × Nat)} {l : List (Nat × LV)} {lo : List (Nat × LObj)}
theorem mkEnv_at : mkEnv l j = lookL l j := rfl
theorem mkObs_at : mkObs lo j = lookH lo j := rfl
theorem close_d : close H (n + 1) (.d x) = some x := rfl
theorem close_agg : close H (n + 1) (.agg cs) = (optAll (cs.map (close H n))).map .agg := rfl
theorem close_ow : close H (n + 1) (.ow id k m) = match H id with | .row _ _ xs => some (.sl ((xs.drop k).take m)) | _ => none := rfl
theorem close_bx : close H (n + 1) (.bx id off) = match H id with | .box _ cs => (optAll ((cs.drop off).map (close H n))).map .ro | _ => none := rfl
theorem close_fn : close H (n + 1) (.fn f cs) = (optAll (cs.map (close H n))).map (.fn f) := rfl
theorem close_mp : close H (n + 1) (.mp id) = match H id with | .map _ ks vs => some (.mp ks vs) | _ => none := rfl
theorem touch_mp : touch H (n + 1) (.mp id) = [id] := rfl
theorem ren_mp : ren σ (n + 1) (.mp id) = match lookN σ id with | some j => .mp j | none => .junk := rfl
theorem close_nl : close H (n + 1) .nl = some (.sl []) := rfl
theorem touch_d : touch H (n + 1) (.d x) = [] := rfl
theorem touch_agg : touch H (n + 1) (.agg cs) = cs.flatMap (touch H n) := rfl
theorem touch_ow : touch H (n + 1) (.ow id k m) = [id] := rfl
theorem touch_bx : touch H (n + 1) (.bx id off) = match H id with | .box _ cs => id :: (cs.drop off).flatMap (touch H n) | _ => [] := rfl
theorem touch_fn : touch H (n + 1) (.fn f cs) = cs.flatMap (touch H n) := rfl
theorem touch_nl : touch H (n + 1) .nl = [] := rfl
theorem ren_d : ren σ (n + 1) (.d x) = .d x := rfl
theorem ren_agg : ren σ (n + 1) (.agg cs) = .agg (cs.map (ren σ n)) := rfl
theorem ren_bx : ren σ (n + 1) (.bx id off) = match lookN σ id with | some j => .bx j off | none => .junk := rfl
theorem ren_rp : ren σ (n + 1) (.rp id k j) = match lookN σ id with | some i => .rp i k j | none => .junk := rfl
theorem ren_ow : ren σ (n + 1) (.ow id k m) = match lookN σ id with | some i => .ow i k m | none => .junk := rfl
theorem ren_fn : ren σ (n + 1) (.fn f cs) = .fn f (cs.map (ren σ n)) := rfl
theorem ren_nl : ren σ (n + 1) .nl = .nl := rfl
theorem ren_junk : ren σ (n + 1) .junk = .junk := rfl
theorem cellsD_agg {cs : List DV} : cellsD (.agg cs) = cs := rfl
theorem cellsD_int {k : IntKind} {i : Int} : cellsD (.int k i) = [.int k i] := rfl
theorem cellsD_bool {b : Bool} : cellsD (.bool b) = [.bool b] := rfl
theorem cellsD_str {s : List UInt8} : cellsD (.str s) = [.str s] := rfl
theorem cellsD_sl {xs : List DV} : cellsD (.sl xs) = [.sl xs] := rfl
theorem cellsD_ro {xs : List DV} : cellsD (.ro xs) = [.ro xs] := rfl
theorem cellsD_fn {xs : List DV} : cellsD (.fn f xs) = [.fn f xs] := rfl
theorem cellsL_agg : cellsL (.agg cs) = cs := rfl
theorem cellsL_dagg {cs : List DV} : cellsL (.d (.agg cs)) = cs.map .d := rfl
theorem cellsL_int {k : IntKind} {i : Int} : cellsL (.d (.int k i)) = [.d (.int k i)] := rfl
theorem cellsL_bool {b : Bool} : cellsL (.d (.bool b)) = [.d (.bool b)] := rfl
theorem cellsL_str {s : List UInt8} : cellsL (.d (.str s)) = [.d (.str s)] := rfl
theorem cellsL_sl {xs : List DV} : cellsL (.d (.sl xs)) = [.d (.sl xs)] := rfl
theorem cellsL_fn {xs : List DV} : cellsL (.d (.fn f xs)) = [.d (.fn f xs)] := rfl
theorem cellsL_ow : cellsL (.ow id k m) = [.ow id k m] := rfl
theorem cellsL_bx : cellsL (.bx id off) = [.bx id off] := rfl
theorem cellsL_lfn : cellsL (.fn f cs) = [.fn f cs] := rfl
theorem cellsL_mp : cellsL (.mp id) = [.mp id] := rfl
theorem cellsD_mp {ks vs : List DV} : cellsD (.mp ks vs) = [.mp ks vs] := rfl
theorem cellsL_dmp {ks vs : List DV} : cellsL (.d (.mp ks vs)) = [.d (.mp ks vs)] := rfl
theorem cellsL_nl : cellsL .nl = [.nl] := rfl
end

end
end Go.Eng

/-
  The engine, part U: contracts of functions that are handed objects, from their bodies. No condition.
-/
namespace Go.Eng
open Go.RowKit

section
variable {P : Program} {T : TypeId → TyI} {N : Nat} {w0 : Base} {X : Nat → Prop} {Q : LX → Env → Obs → Prop} {env env' env'' : Env} {H H' H'' : Obs}

/-- The frame as such a call finds it. -/
def lenv (args : List LV) : Env := mkEnv ((args.zipIdx).map fun p => (p.2, p.1))
theorem lenv_get (args : List LV) (t : Nat) : lenv args t = (args[t]?).getD .junk := by
  have key : ∀ (l : List LV) (k t : Nat), lookL ((l.zipIdx k).map fun p => (p.2, p.1)) (k + t) = (l[t]?).getD .junk := by
    intro l
    induction l with
    | nil => intro k t; simp [lookL]
    | cons x r ih =>
      intro k t
      simp only [List.zipIdx_cons, List.map_cons, lookL]
      cases t with
      | zero => simp
      | succ t =>
        rw [if_neg (by omega)]
        have := ih (k + 1) t
        rw [show k + 1 + t = k + (t + 1) by omega] at this
        rw [this]; simp
  have := key args 0 t
  rw [Nat.zero_add] at this
  exact this

theorem OkG.of_body {f : FuncId} {fn : Func} {c : Code} {args : List LV} {h fin : List (Nat × LObj)} {ret : LV} {n : Nat} (hf : P.funcs[f]? = some fn) (hname : (fn.name == "runtime.NumGoroutine") = false) (hb : fn.body = some c) (hn : fn.ntmps = n) (hargs : args.length ≤ n)
    (hw : ∀ w0 X, w0.pins = h.map (·.1) → LWp P n w0 X c (fun x env H => (match x with | .exit _ => False | _ => True) ∧ ∀ β a w, Sim n w0 X env H β a w → ∃ v β', (results fn a.tmps).run P w = .ok v w ∧ Mem w0 X (mkObs fin) β' w ∧ R w (Ex X β' (mkObs fin)) β' (mkObs fin) ret v) (lenv args) (mkObs h)) :
    OkG P f args h fin ret := by
  refine ⟨⟨fn, hf, hname, by rw [hb]; rfl⟩, fun w X β vs m hvl hr => ?_⟩
  refine calls_of_wp hf hb (wp_mono (hw ⟨w, β, mkObs h, h.map (·.1)⟩ X rfl β ⟨vs.toArray ++ Array.replicate (fn.ntmps - vs.toArray.size) undef, []⟩ w ?_) ?_)
  · refine ⟨rfl, ?_, m.ext, m.xold, m.fresh, m.inj, fun t => ?_, m.obj, m.pin⟩
    · simp; omega
    · rw [lenv_get]
      cases q : args[t]? with
      | none => exact .junk _
      | some x =>
        have ht : t < vs.length := by rw [hvl]; exact (List.getElem?_eq_some_iff.1 q).1
        have hv : (vs.toArray ++ Array.replicate (fn.ntmps - vs.toArray.size) undef).getD t undef = vs[t] := by
          simp [Array.getD_eq_getD_getElem?, Array.getElem?_append_left, ht]
        rw [hv]
        exact hr t x _ q (List.getElem?_eq_getElem ht)
  · rintro e a' w' ⟨x, env, H, β1, h1, s, h2, h3⟩
    obtain ⟨v, β', hv1, hv2, hv3⟩ := h3 β1 a' w' s
    cases e <;> cases x <;> simp only [exitIs] at h1
    · exact ⟨s.defers, v, hv1, v, β', rfl, hv2, hv3⟩
    · exact h2.elim
    · exact ⟨s.defers, v, hv1, v, β', rfl, hv2, hv3⟩

/-- What such a function has to end in: no result; one. -/
def retG0 (w0 : Base) (fin : List (Nat × LObj)) (x : LX) (env : Env) (H : Obs) : Prop := (match x with | .exit _ => False | _ => True) ∧ Weak w0 env H (mkEnv []) (mkObs fin)
def retG1 (w0 : Base) (t : Nat) (fin : List (Nat × LObj)) (ret : LV) (x : LX) (env : Env) (H : Obs) : Prop := (match x with | .exit _ => False | _ => True) ∧ Weak w0 env H (mkEnv [(t, ret)]) (mkObs fin)
theorem retG0_ret {fin : List (Nat × LObj)} : retG0 w0 fin .ret env H ↔ Weak w0 env H (mkEnv []) (mkObs fin) := by simp [retG0]
theorem retG0_normal {fin : List (Nat × LObj)} : retG0 w0 fin .normal env H ↔ Weak w0 env H (mkEnv []) (mkObs fin) := by simp [retG0]
theorem retG1_ret {t : Nat} {fin : List (Nat × LObj)} {ret : LV} : retG1 w0 t fin ret .ret env H ↔ Weak w0 env H (mkEnv [(t, ret)]) (mkObs fin) := by simp [retG1]

theorem OkG.unit {f : FuncId} {fn : Func} {c : Code} {args : List LV} {h fin : List (Nat × LObj)} {n : Nat} (hf : P.funcs[f]? = some fn) (hname : (fn.name == "runtime.NumGoroutine") = false) (hb : fn.body = some c) (hn : fn.ntmps = n) (hargs : args.length ≤ n) (hres : fn.results = #[])
    (hw : ∀ w0 X, w0.pins = h.map (·.1) → LWp P n w0 X c (retG0 w0 fin) (lenv args) (mkObs h)) : OkG P f args h fin (.tup []) :=
  OkG.of_body hf hname hb hn hargs fun w0 X hp => (hw w0 X hp).mono fun x env H ⟨h1, h2⟩ => ⟨h1, fun β a w s => by
    obtain ⟨β', s'⟩ := h2 _ _ _ _ _ s
    exact ⟨.tuple #[], β', results_none hres _ _ _, s'.mem, .tup [] [] rfl (by simp)⟩⟩
theorem OkG.one {f : FuncId} {fn : Func} {c : Code} {args : List LV} {h fin : List (Nat × LObj)} {ret : LV} {n t : Nat} (hf : P.funcs[f]? = some fn) (hname : (fn.name == "runtime.NumGoroutine") = false) (hb : fn.body = some c) (hn : fn.ntmps = n) (hargs : args.length ≤ n) (hres : fn.results = #[.tmp t])
    (hw : ∀ w0 X, w0.pins = h.map (·.1) → LWp P n w0 X c (retG1 w0 t fin ret) (lenv args) (mkObs h)) : OkG P f args h fin ret :=
  OkG.of_body hf hname hb hn hargs fun w0 X hp => (hw w0 X hp).mono fun x env H ⟨h1, h2⟩ => ⟨h1, fun β a w s => by
    obtain ⟨β', s'⟩ := h2 _ _ _ _ _ s
    have := s'.env t
    rw [show mkEnv [(t, ret)] t = ret by simp [mkEnv, lookL]] at this
    exact ⟨_, β', results_tmp hres _ _ _, s'.mem, this⟩⟩

theorem optAll_d {n : Nat} : ∀ {cs : List DV}, optAll (List.map (close H (n + 1) ∘ LV.d) cs) = some cs
  | [] => rfl
  | c :: cs => by
    have ih := optAll_d (n := n) (cs := cs)
    simp only [List.map_cons, Function.comp, close_d, optAll] at ih ⊢
    rw [ih]; rfl
theorem optAll_d' {n : Nat} {cs : List DV} : optAll (List.map (close H (n + 1)) (List.map LV.d cs)) = some cs := by rw [List.map_map]; exact optAll_d
theorem touch_ds {n : Nat} {cs : List DV} : (List.map LV.d cs).flatMap (touch H (n + 1)) = [] := by
  induction cs with
  | nil => rfl
  | cons c cs ih => simp only [List.map_cons, List.flatMap_cons, touch_d, List.nil_append]; exact ih
end
end Go.Eng

/-
  The engine, part V: regions with a guess: whether a slice is nil, the room of a slice, the results of a call of which several are possible. No condition.
-/
namespace Go.Eng
open Go.RowKit

section
variable {P : Program} {T : TypeId → TyI} {N : Nat} {w0 : Base} {X : Nat → Prop} {Q : LX → Env → Obs → Prop} {env : Env} {H : Obs} {l : List Oper} {id : Nat}

def oneAt (l : List Oper) (d0 : Nat) : Bool := decide ((l.filter fun o => o.dst.getD 0 == d0).length ≤ 1)
def oneAtI (l : List Oper) (d0 : Nat) : Bool := decide (((List.range l.length).filter fun i => match l[i]? with | some o => o.dst.getD 0 == d0 | none => false).length ≤ 1)

/-- What a region comes to, whatever its order is. -/
def runR (P : Program) (T : TypeId → TyI) (N : Nat) (l : List Oper) (orc : Nat → Option Orc) (env : Env) (H : Obs) (Q : LX → Env → Obs → Prop) : Prop := (runL P T N l orc env H).ok ∧ Q .normal (runL P T N l orc env H).env (runL P T N l orc env H).H

theorem LWp.regNil (hT : TOk P T) (hW : TWf T) (d0 : Nat) (e : Bool) (base : Nat → Option Orc) (hdet : ∀ d, DetS (base d)) (hc : oneAt l d0 = true)
    (h : ∀ b : Bool, (b = true → e = true) → (runL P T N l (gorc d0 base (fun b => .nil e b) b) env H).ok ∧ Q .normal (runL P T N l (gorc d0 base (fun b => .nil e b) b) env H).env (runL P T N l (gorc d0 base (fun b => .nil e b) b) env H).H) : LWp P N w0 X (.region id l.toArray false) Q env H :=
  LWp.regG hT hW d0 base (fun b => .nil e b) (fun b => b = true → e = true) hdet (fun b hb => ⟨b, hb, rfl⟩) (fun b _ r' ⟨j, h1, h2⟩ => ⟨j, h1, h2.symm⟩) false (by simp) (of_decide_eq_true hc) h
theorem LWp.regCap (hT : TOk P T) (hW : TWf T) (d0 lo : Nat) (hlo : lo ≤ maxLen) (base : Nat → Option Orc) (hdet : ∀ d, DetS (base d)) (hc : oneAt l d0 = true)
    (h : ∀ c : Nat, lo ≤ c → c ≤ maxLen → (runL P T N l (gorc d0 base (fun c => .cap lo c) c) env H).ok ∧ Q .normal (runL P T N l (gorc d0 base (fun c => .cap lo c) c) env H).env (runL P T N l (gorc d0 base (fun c => .cap lo c) c) env H).H) : LWp P N w0 X (.region id l.toArray false) Q env H :=
  LWp.regG hT hW d0 base (fun c => .cap lo c) (fun c => lo ≤ c ∧ c ≤ maxLen) hdet (fun c hc => ⟨c, hc.1, hc.2, rfl⟩) (fun c _ r' ⟨j, h1, h2, h3⟩ => ⟨j, ⟨h1, h2⟩, h3.symm⟩) lo ⟨Nat.le_refl _, hlo⟩ (of_decide_eq_true hc) fun c hc => h c hc.1 hc.2
theorem LWp.regRel (hT : TOk P T) (hW : TWf T) (d0 : Nat) (Rel : Ret → Prop) (fr : Bool) (r0 : Ret) (h0 : Rel r0 ∧ r0.fresh = fr) (base : Nat → Option Orc) (hdet : ∀ d, DetS (base d)) (hc : oneAt l d0 = true)
    (h : ∀ r : Ret, Rel r → (runL P T N l (gorc d0 base (fun r => .rel Rel fr r) r) env H).ok ∧ Q .normal (runL P T N l (gorc d0 base (fun r => .rel Rel fr r) r) env H).env (runL P T N l (gorc d0 base (fun r => .rel Rel fr r) r) env H).H) : LWp P N w0 X (.region id l.toArray false) Q env H :=
  LWp.regG hT hW d0 base (fun r => .rel Rel fr r) (fun r => Rel r ∧ r.fresh = fr) hdet (fun c hc => ⟨c, hc.1, hc.2, rfl⟩) (fun c _ r' ⟨j, h1, h2, h3⟩ => ⟨j, ⟨h1, h2⟩, h3.symm⟩) r0 h0 (of_decide_eq_true hc) fun c hc => h c hc.1
theorem LWp.regGenR (hT : TOk P T) (hW : TWf T) (d0 : Nat) (σ new : List (Nat × Nat)) (shut : List Nat) (Rel : List (Nat × LObj) → LV → Prop) (f0 : List (Nat × LObj)) (r0 : LV) (h0 : Rel f0 r0) (base : Nat → Option Orc) (hdet : ∀ d, DetS (base d)) (hc : oneAt l d0 = true)
    (h : ∀ (i : List (Nat × LObj) × LV), Rel i.1 i.2 → (runL P T N l (gorc d0 base (fun (i : List (Nat × LObj) × LV) => .genR ⟨σ, new, shut, i.1, i.2⟩ Rel) i) env H).ok ∧ Q .normal (runL P T N l (gorc d0 base (fun (i : List (Nat × LObj) × LV) => .genR ⟨σ, new, shut, i.1, i.2⟩ Rel) i) env H).env (runL P T N l (gorc d0 base (fun (i : List (Nat × LObj) × LV) => .genR ⟨σ, new, shut, i.1, i.2⟩ Rel) i) env H).H) :
    LWp P N w0 X (.region id l.toArray false) Q env H :=
  LWp.regG hT hW d0 base (fun (i : List (Nat × LObj) × LV) => .genR ⟨σ, new, shut, i.1, i.2⟩ Rel) (fun i => Rel i.1 i.2) hdet (fun c hc => ⟨c.1, c.2, hc, rfl⟩) (fun c _ r' ⟨fin, ret, h1, h2⟩ => ⟨(fin, ret), h1, h2.symm⟩) (f0, r0) h0 (of_decide_eq_true hc) h

theorem LWp.anyNil (hT : TOk P T) (hW : TWf T) (hm : P.follows .mixedOrders = true) (cl hide wr : Nat → List Nat) (hA : anyChk l cl hide wr = true) (d0 : Nat) (e : Bool) (base : Nat → Option Orc) (hdet : ∀ d, DetS (base d)) (hc : oneAtI l d0 = true)
    (h : ∀ b : Bool, (b = true → e = true) → (runM P T N l (gorc d0 base (fun b => .nil e b) b) hide wr ⟨env, H, True⟩).ok ∧ Q .normal (runM P T N l (gorc d0 base (fun b => .nil e b) b) hide wr ⟨env, H, True⟩).env (runM P T N l (gorc d0 base (fun b => .nil e b) b) hide wr ⟨env, H, True⟩).H) : LWp P N w0 X (.region id l.toArray true) Q env H :=
  LWp.regAny1 hT hW hm cl hide wr hA d0 base (fun b => .nil e b) (fun b => b = true → e = true) hdet (fun b hb => ⟨b, hb, rfl⟩) (fun b _ r' ⟨j, h1, h2⟩ => ⟨j, h1, h2.symm⟩) false (by simp) (of_decide_eq_true hc) h
theorem LWp.anyCap (hT : TOk P T) (hW : TWf T) (hm : P.follows .mixedOrders = true) (cl hide wr : Nat → List Nat) (hA : anyChk l cl hide wr = true) (d0 lo : Nat) (hlo : lo ≤ maxLen) (base : Nat → Option Orc) (hdet : ∀ d, DetS (base d)) (hc : oneAtI l d0 = true)
    (h : ∀ c : Nat, lo ≤ c → c ≤ maxLen → (runM P T N l (gorc d0 base (fun c => .cap lo c) c) hide wr ⟨env, H, True⟩).ok ∧ Q .normal (runM P T N l (gorc d0 base (fun c => .cap lo c) c) hide wr ⟨env, H, True⟩).env (runM P T N l (gorc d0 base (fun c => .cap lo c) c) hide wr ⟨env, H, True⟩).H) : LWp P N w0 X (.region id l.toArray true) Q env H :=
  LWp.regAny1 hT hW hm cl hide wr hA d0 base (fun c => .cap lo c) (fun c => lo ≤ c ∧ c ≤ maxLen) hdet (fun c hc => ⟨c, hc.1, hc.2, rfl⟩) (fun c _ r' ⟨j, h1, h2, h3⟩ => ⟨j, ⟨h1, h2⟩, h3.symm⟩) lo ⟨Nat.le_refl _, hlo⟩ (of_decide_eq_true hc) fun c hc => h c hc.1 hc.2
theorem LWp.anyRel (hT : TOk P T) (hW : TWf T) (hm : P.follows .mixedOrders = true) (cl hide wr : Nat → List Nat) (hA : anyChk l cl hide wr = true) (d0 : Nat) (Rel : Ret → Prop) (fr : Bool) (r0 : Ret) (h0 : Rel r0 ∧ r0.fresh = fr) (base : Nat → Option Orc) (hdet : ∀ d, DetS (base d)) (hc : oneAtI l d0 = true)
    (h : ∀ r : Ret, Rel r → (runM P T N l (gorc d0 base (fun r => .rel Rel fr r) r) hide wr ⟨env, H, True⟩).ok ∧ Q .normal (runM P T N l (gorc d0 base (fun r => .rel Rel fr r) r) hide wr ⟨env, H, True⟩).env (runM P T N l (gorc d0 base (fun r => .rel Rel fr r) r) hide wr ⟨env, H, True⟩).H) : LWp P N w0 X (.region id l.toArray true) Q env H :=
  LWp.regAny1 hT hW hm cl hide wr hA d0 base (fun r => .rel Rel fr r) (fun r => Rel r ∧ r.fresh = fr) hdet (fun c hc => ⟨c, hc.1, hc.2, rfl⟩) (fun c _ r' ⟨j, h1, h2, h3⟩ => ⟨j, ⟨h1, h2⟩, h3.symm⟩) r0 h0 (of_decide_eq_true hc) fun c hc => h c hc.1

/-- What a variable in memory holds is said in other words. -/
theorem Mem.rebox {β : Nat → Option Nat} {w : World} (m : Mem w0 X H β w) {b : Nat} {fz : Bool} {cs cs' : List LV} (hH : H b = .box fz cs) (hl : cs'.length = cs.length) (h : ∀ (i : Nat) (c c' : LV) (v : Value), cs[i]? = some c → cs'[i]? = some c' → R w (Ex X β H) β H c v → R w (Ex X β H) β H c' v) :
    Mem w0 X (upd H b (.box fz cs')) β w ∧ Goes X H β w (upd H b (.box fz cs')) β w := by
  have hmut : ∀ i, (upd H b (.box fz cs') i).mut = (H i).mut := fun i => by
    by_cases hi : i = b
    · subst hi; rw [upd_same, hH]; rfl
    · rw [upd_ne _ _ hi]
  have hlive : ∀ i, (upd H b (.box fz cs') i).live = (H i).live := fun i => by
    by_cases hi : i = b
    · subst hi; rw [upd_same, hH]; rfl
    · rw [upd_ne _ _ hi]
  have hg : Goes X H β w (upd H b (.box fz cs')) β w := by
    refine ⟨Nat.le_refl _, fun _ _ _ => rfl, fun k _ he => ?_, fun i => ?_⟩
    · rcases he with he | ⟨i, h1, h2⟩
      · exact .inl he
      · rw [hmut] at h1; exact .inr ⟨i, h1, h2⟩
    · by_cases hi : i = b
      · subst hi; unfold Passes; rw [hH, upd_same]; exact .inr ⟨⟨fz, cs', rfl⟩, rfl⟩
      · have hp := Passes.refl (w := w) (β := β) (H := H) i
        unfold Passes at *
        rw [upd_ne _ _ hi]; exact hp
  refine ⟨⟨m.ext, m.xold, fun i b' h1 h2 => ?_, fun i j b' h1 h2 => ?_, fun i => ?_, fun i hi => (m.pin i hi).trans (hg.pass i)⟩, hg⟩
  · rw [hlive] at h1; rw [hmut]; exact m.fresh i b' h1 h2
  · rw [hlive] at h1 h2; exact m.inj i j b' h1 h2
  · by_cases hi : i = b
    · subst hi
      have ho := m.obj i
      unfold ObjR at *
      rw [hH] at ho
      rw [upd_same]
      obtain ⟨b', e, us, h1, h2, h3, h4, h5⟩ := ho
      refine ⟨b', e, us, h1, h2, by rw [hl]; exact h3, h4, fun j c v hc hv => ?_⟩
      have hj : j < cs.length := by have := (List.getElem?_eq_some_iff.1 hc).1; omega
      exact hg.R (h j _ c v (List.getElem?_eq_getElem hj) hc (h5 j _ v (List.getElem?_eq_getElem hj) hv))
    · exact (m.obj i).step hg.size hg.out (fun _ _ => hg.D) (fun _ _ => hg.R) (upd_ne _ _ hi) (fun _ => rfl) fun _ _ _ => rfl

/-- A variable that holds an empty slice: the slice is taken for a row of the call's own. -/
theorem LWp.nlBox {c : Code} (b id s : Nat) {fz : Bool} (hs : 0 < s) (h : H b = .box fz [.nl] ∧ H id = .absent ∧ LWp P N w0 X c Q env (upd (upd H id (.row false s [])) b (.box fz [.ow id 0 0]))) : LWp P N w0 X c Q env H := by
  obtain ⟨hb, hid, h⟩ := h
  have hne : b ≠ id := fun e => by rw [e, hid] at hb; cases hb
  intro β a w sm
  obtain ⟨m1, g1⟩ := new_none sm.mem hid hs
  obtain ⟨m2, g2⟩ := m1.rebox (b := b) (fz := fz) (cs := [.nl]) (cs' := [.ow id 0 0]) (by rw [upd_ne _ _ hne]; exact hb) rfl fun i c c' v hc hc' hr => by
    cases i with
    | succ i => simp at hc
    | zero =>
      simp at hc hc'
      subst hc; subst hc'
      cases hr with | nl p => exact .ow0 id 0 p false s [] (by rw [upd_same]) (.inl ⟨by rw [upd_same], rfl⟩)
  exact h _ a w ⟨sm.defers, sm.size, m2.ext, m2.xold, m2.fresh, m2.inj, fun t => g2.R (g1.R (sm.env t)), m2.obj, m2.pin⟩

/-- A result of which several are possible. -/
theorem OkR.of_body {f : FuncId} {fn : Func} {c : Code} {args : List DV} {Rel : Ret → Prop} {n : Nat} (hf : P.funcs[f]? = some fn) (hname : (fn.name == "runtime.NumGoroutine") = false) (hb : fn.body = some c) (hn : fn.ntmps = n) (hargs : args.length ≤ n)
    (h : ∀ w0 X, w0.pins = [] → LWp P n w0 X c (fun x env H => (match x with | .exit _ => False | _ => True) ∧ ∀ β a w, Sim n w0 X env H β a w → ∃ v r, Rel r ∧ (results fn a.tmps).run P w = .ok v w ∧ RetOk w0.w w (fun k => X k ∨ r.fresh = true ∧ k < w0.w.heap.size) r.v v) (argsEnv args) (mkObs [])) :
    OkR P f args Rel := by
  refine ⟨⟨fn, hf, hname, by rw [hb]; rfl⟩, fun w X vs hX hr => ?_⟩
  refine calls_of_wp hf hb (wp_mono (h ⟨w, fun _ => none, fun _ => .absent, []⟩ X rfl (fun _ => none) ⟨vs.toArray ++ Array.replicate (fn.ntmps - vs.toArray.size) undef, []⟩ w ?_) ?_)
  · refine ⟨rfl, ?_, ⟨rfl, rfl, rfl, Nat.le_refl _, fun _ _ _ => rfl, Nat.le_refl _⟩, fun k hk => ⟨hX k hk, by rintro ⟨id, hid, _⟩; cases hid⟩, fun id b hl _ => by simp [mkObs, lookH, LObj.live] at hl, fun i j b hi _ => by simp [mkObs, lookH, LObj.live] at hi, fun t => ?_, fun id => by unfold ObjR; trivial, fun id hid => by cases hid⟩
    · have := hr.1
      simp
      omega
    · rw [argsEnv_get]
      cases q : args[t]? with
      | none => exact .junk _
      | some x =>
        have ht : t < vs.length := by rw [hr.1]; exact (List.getElem?_eq_some_iff.1 q).1
        have hv : (vs.toArray ++ Array.replicate (fn.ntmps - vs.toArray.size) undef).getD t undef = vs[t] := by
          simp [Array.getD_eq_getD_getElem?, Array.getElem?_append_left, ht]
        rw [hv]
        refine .d _ _ ((hr.2 t x _ q (List.getElem?_eq_getElem ht)).anti fun k hk => ?_)
        rcases hk with hk | ⟨id, h1, _⟩
        · exact hk
        · cases h1
  · rintro e a' w' ⟨x, env, H, β, h1, s, h2, h3⟩
    obtain ⟨v, r, hrel, hv1, hv2⟩ := h3 β a' w' s
    have hbel : Bel w.heap.size w w' := ⟨s.ext.os, s.ext.tape, s.ext.output, s.ext.size, fun k hk => s.ext.block k hk (by rintro ⟨id, hid, _⟩; cases hid), s.ext.drawn⟩
    cases e <;> cases x <;> simp only [exitIs] at h1
    · exact ⟨s.defers, v, hv1, v, r, hrel, rfl, hbel, hv2⟩
    · exact h2.elim
    · exact ⟨s.defers, v, hv1, v, r, hrel, rfl, hbel, hv2⟩
def retR (t : Nat) (fresh : Bool) (Rel : RV → Prop) (x : LX) (env : Env) (H : Obs) : Prop := (match x with | .exit _ => False | _ => True) ∧ ∃ r, Rel r ∧ (∀ rs, r ≠ .tup rs) ∧ RetIs H fresh (env t) r
theorem retR_ret {t : Nat} {fresh : Bool} {Rel : RV → Prop} : retR t fresh Rel .ret env H ↔ ∃ r, Rel r ∧ (∀ rs, r ≠ .tup rs) ∧ RetIs H fresh (env t) r := by simp [retR]
theorem OkR.ret {f : FuncId} {fn : Func} {c : Code} {args : List DV} {Rel : RV → Prop} {fresh : Bool} {n t : Nat} (hf : P.funcs[f]? = some fn) (hname : (fn.name == "runtime.NumGoroutine") = false) (hb : fn.body = some c) (hn : fn.ntmps = n) (hargs : args.length ≤ n) (hres : fn.results = #[.tmp t])
    (h : ∀ w0 X, w0.pins = [] → LWp P n w0 X c (retR t fresh Rel) (argsEnv args) (mkObs [])) : OkR P f args (fun r => Rel r.v ∧ r.fresh = fresh) := by
  refine OkR.of_body hf hname hb hn hargs fun w0 X hpn => (h w0 X hpn).mono fun x env H ⟨h1, r, h2, h3, h4⟩ => ⟨h1, fun β a w s => ⟨a.tmps.getD t undef, ⟨r, fresh⟩, ⟨h2, rfl⟩, results_tmp hres _ _ _, ?_⟩⟩
  obtain ⟨B, hB⟩ := ret_one hpn s (s.env t) h4
  cases q : r with
  | tup rs => exact absurd q (h3 rs)
  | d x => rw [q] at hB; exact ⟨B, hB⟩
  | own sz xs => rw [q] at hB; exact ⟨B, hB⟩
end
end Go.Eng

/-
  The engine, part W: slices.SortFunc by the shelf's contract, at a struct whose cells are plain. No condition.
-/
namespace Go.Eng
open Go.RowKit Go.Shelf Go.Sort Go.Proofs

theorem bel_grow {W w' : World} (h : Bel W.heap.size W w') : ∃ q os', w' = grow (W.drewN q) os' := by
  refine ⟨w'.drawn - W.drawn, w'.heap.extract W.heap.size w'.heap.size, ?_⟩
  obtain ⟨heap, tape, drawn, os, output⟩ := w'
  obtain ⟨h1, h2, h3, h4, h5, h6⟩ := h
  simp only at h1 h2 h3 h4 h5 h6
  subst h1; subst h2; subst h3
  unfold grow World.drewN
  congr 1
  · apply Array.ext_getElem?
    intro i
    rw [Array.getElem?_append]
    by_cases hi : i < W.heap.size
    · simp only [hi, if_true]; exact h5 i hi
    · simp only [hi, if_false]
      rw [Array.getElem?_extract]
      by_cases hj : i < heap.size
      · simp [show i - W.heap.size < heap.size - W.heap.size by omega, show W.heap.size + (i - W.heap.size) = i by omega]
      · simp [hj]; omega
  · simp only; omega

/-- A struct's cells, as plain values. -/
structure Cells {α : Type} (k : Nat) (d : α → DV) (enc : α → List Value) : Prop where
  pos : 0 < k
  len : ∀ x, (enc x).length = k
  lenD : ∀ x, (cellsD (d x)).length = k
  one : ∀ x, ∀ v ∈ enc x, v.oneCell' = true
  cell : ∀ (x : α) (i : Nat) (c : DV) (v : Value), (cellsD (d x))[i]? = some c → (enc x)[i]? = some v → ∀ w E u, RD w E c u ↔ u = v

theorem flatK_list {α : Type} [Inhabited α] {k : Nat} {d : α → DV} {enc : α → List Value} (C : Cells k d enc) (l : List α) : (flatK enc k l.toArray).toList = l.flatMap enc := by
  have hk := C.pos
  apply List.ext_getElem?
  intro i
  by_cases hi : i < l.length * k
  · have hlt : i / k < l.length := (Nat.div_lt_iff_lt_mul hk).2 hi
    have hm := Nat.mod_lt i hk
    have e1 : (l.flatMap enc)[i]? = (enc l[i / k])[i % k]? := by
      have key : ∀ (l : List α) (q r : Nat) (hq : q < l.length), r < k → (l.flatMap enc)[q * k + r]? = (enc l[q])[r]? := by
        intro l
        induction l with
        | nil => intro q r hq; simp at hq
        | cons x t ih =>
          intro q r hq hr
          simp only [List.flatMap_cons]
          cases q with
          | zero => rw [Nat.zero_mul, Nat.zero_add, List.getElem?_append_left (by rw [C.len]; exact hr)]; rfl
          | succ q =>
            rw [List.getElem?_append_right (by rw [C.len, Nat.add_mul]; omega), C.len, show (q + 1) * k + r - k = q * k + r by rw [Nat.add_mul]; omega]
            exact ih q r (by simpa using hq) hr
      have := key l (i / k) (i % k) hlt hm
      rw [show i / k * k + i % k = i by rw [Nat.mul_comm]; exact Nat.div_add_mod _ _] at this
      exact this
    rw [e1]
    have hr : i % k < (enc l[i / k]).length := by rw [C.len]; exact hm
    have e2 : (flatK enc k l.toArray)[i]? = some ((enc l.toArray[i / k]!)[i % k]!) := by simp [flatK, hi]
    rw [Array.getElem?_toList, e2, List.getElem?_eq_getElem hr]
    simp [hlt, hr]
  · rw [List.getElem?_eq_none (by simp [flatK]; omega), List.getElem?_eq_none]
    have : (l.flatMap enc).length = l.length * k := by
      clear hi
      induction l with
      | nil => simp
      | cons x t ih => simp only [List.flatMap_cons, List.length_append, C.len, ih, List.length_cons, Nat.add_mul]; omega
    omega

section
variable {P : Program} {ρ : Ren} {α : Type} [Inhabited α]

theorem flat_cells {α : Type} {k : Nat} {d : α → DV} {enc : α → List Value} (C : Cells k d enc) : ∀ (l : List α) (i : Nat) (c : DV) (v : Value), (flatD (l.map d))[i]? = some c → (l.flatMap enc)[i]? = some v → ∀ w E u, RD w E c u ↔ u = v
  | [], i, c, v, hc, _ => by simp [flatD] at hc
  | x :: t, i, c, v, hc, hv => by
    simp only [List.map_cons, flatD, List.flatMap_cons] at hc hv
    by_cases hi : i < k
    · rw [List.getElem?_append_left (by rw [C.lenD]; exact hi)] at hc
      rw [List.getElem?_append_left (by rw [C.len]; exact hi)] at hv
      exact C.cell x i c v hc hv
    · rw [List.getElem?_append_right (by rw [C.lenD]; omega), C.lenD] at hc
      rw [List.getElem?_append_right (by rw [C.len]; omega), C.len] at hv
      exact flat_cells C t (i - k) c v hc hv

theorem sortFunc_ok (L : SlLaysF0.n6 P ρ) {k : Nat} {d : α → DV} {enc : α → List Value} (C : Cells k d enc) (hagg : ∀ x w E v, RD w E (d x) v ↔ v = .agg (enc x).toArray) (aE : ∀ w, (isAgg (ρ.t 24)).run P w = .ok true w) (zE : ∀ w, (Go.sizeOf (ρ.t 24)).run P w = .ok k w) (cf : α → α → Int) (hO : SWO (ltOf cf))
    (hT : ∀ x y, (ltOf cf) x y = false → (ltOf cf) y x = false → x = y) (g : Nat) (hcmp : ∀ x y, Ok P g [d x, d y] ⟨.d (.int .i64 (cf x y)), true⟩) (hcl : Callable P (ρ.f 6)) (l : List α) (hl : l.length ≤ 8000000000000) :
    OkG P (ρ.f 6) [.ow 0 0 l.length, .d (.fn g [])] [(0, .row false k (l.map d))] [(0, .row false k ((l.mergeSort fun x y => !(ltOf cf) y x).map d))] (.tup []) := by
  have eg : ∀ args w, (callFunc g args).run P w = .ok (.enter g args) w := fun args w => by
    obtain ⟨fn, hf, hname, hb⟩ := (hcmp default default).1
    have h1 : fn.name ≠ "runtime.NumGoroutine" := by simpa using hname
    obtain ⟨c, hc⟩ := Option.isSome_iff_exists.1 hb
    simp [callFunc, hf, h1, hc]
  refine ⟨hcl, fun w X β vs m hvl hr => ?_⟩
  have hH : mkObs [(0, LObj.row false k (l.map d))] 0 = .row false k (l.map d) := by simp [mkObs, lookH]
  have hfin : ∀ o, mkObs [(0, o)] = upd (mkObs [(0, LObj.row false k (l.map d))]) 0 o := fun o => by
    funext j; simp only [mkObs, lookH, upd]; split <;> rfl
  generalize hHd : mkObs [(0, LObj.row false k (l.map d))] = H at *
  match vs, hvl with
  | [v0, v1], _ =>
  have r0 := hr 0 _ _ rfl rfl
  have r1 := hr 1 _ _ rfl rfl
  have e1 : v1 = .func (.func g) #[] #[] := by
    cases r1 with
    | d _ _ h => cases h with
      | fn _ _ us hl _ => have : us = [] := List.eq_nil_of_length_eq_zero hl; subst this; rfl
  subst e1
  have hlen : (l.map d).length = l.length := by simp
  rcases ow_cases m hH r0 with ⟨b, c, cur, e, rfl, hb, hkn, hn, hc, hblk, hroom, hcap⟩ | ⟨p, rfl, hz, _⟩
  · have hob := m.obj 0
    simp only [ObjR, hH] at hob
    obtain ⟨hpos, hall, hob⟩ := hob
    rcases hob with ⟨hnone, _⟩ | ⟨b', e', cur', hb', hblk', hlen', hpo⟩
    · rw [hnone] at hb; cases hb
    rw [hb] at hb'; injection hb' with hb'; subst hb'
    rw [hblk] at hblk'; injection hblk' with hblk'; injection hblk' with p1 p2; subst p1; subst p2
    have hfl : (l.flatMap enc).length = l.length * k := by
      rw [← flatK_list C l]; simp
    have hfd : (flatD (l.map d)).length = l.length * k := by rw [flat_len hall, hlen]
    rw [hlen] at hlen'
    have hhold : HoldsK enc k w b 0 l.toArray := by
      intro j hj
      simp only [size_flatK, List.size_toArray] at hj
      have hv : j < (l.flatMap enc).length := by omega
      have hg : (flatK enc k l.toArray)[j]! = (l.flatMap enc)[j] := by
        have : (flatK enc k l.toArray)[j]? = some ((l.flatMap enc)[j]) := by rw [← Array.getElem?_toList, flatK_list C l]; exact List.getElem?_eq_getElem hv
        simp [getElem!_def, this]
      have hjc : j < cur.size := by omega
      refine ⟨?_, ?_⟩
      · rw [cell_of_row w b _ cur e (0, 0) hblk, hg]
        have := (hpo j _ cur[j] (List.getElem?_eq_getElem (by omega)) (Array.getElem?_eq_getElem hjc)).2
        have := ((flat_cells C l j _ _ (List.getElem?_eq_getElem (by omega)) (List.getElem?_eq_getElem hv)) _ _ _).1 this
        simp only [Nat.zero_add, id]
        rw [Array.getElem?_eq_getElem hjc, this]
      · simp [World.frozen?, hblk]
    have hlb : b < w.heap.size := (Array.getElem?_eq_some_iff.1 hblk).1
    have hlays : CmpLays P g #[] enc k cf b 0 l.toArray.size w := fun q os dk _ x y => by
      refine ((hcmp x y).2 (sortWorldK enc k w b 0 q dk os) (fun _ => False) [.agg (enc x).toArray, .agg (enc y).toArray] (fun _ h => h.elim) ⟨rfl, fun i c v hc hv => ?_⟩).mono ?_
      · match i, hc, hv with
        | 0, hc, hv => simp at hc hv; subst hc; subst hv; exact (hagg x _ _ _).2 rfl
        | 1, hc, hv => simp at hc hv; subst hc; subst hv; exact (hagg y _ _ _).2 rfl
      · rintro e w' ⟨v, rfl, hbel, hret⟩
        refine ⟨?_, bel_grow hbel⟩
        obtain ⟨B, hB⟩ := hret
        cases hB; rfl
    have hcon := AnyQ.slices_SortFunc_total L k aE zE enc C.len C.one cf hO g #[] b 0 c l.toArray w eg hlays hhold hlb (by simp; omega) hT
    simp only [List.size_toArray] at hcon
    rw [show #[Value.slice (some ⟨b, 0, none⟩) l.length c, .func (.func g) #[] #[]] = [Value.slice (some ⟨b, 0 * k, none⟩) l.length c, .func (.func g) #[] #[]].toArray by rw [Nat.zero_mul]] at hcon
    refine hcon.mono ?_
    rintro ee w' ⟨rfl, n, os, rfl⟩
    generalize hs : (l.mergeSort fun x y => !(ltOf cf) y x) = s
    have hsl : s.length = l.length := by rw [← hs]; exact List.length_mergeSort _
    have hsf : (s.flatMap enc).length = l.length * k := by rw [← flatK_list C s]; simp [hsl]
    -- the row written
    have hput : (putRowK enc k (Sort.ahead w n) b 0 s.toArray).heap[b]? = some (.cells (putL 0 cur.toList (s.flatMap enc)).toArray e (0, 0)) := by
      have h1 : (putRowK enc k (Sort.ahead w n) b 0 s.toArray).heap[b]? = some (.cells (putCells id 0 (flatK enc k s.toArray) cur) e (0, 0)) := by
        unfold putRowK putRow mapBlock
        simp only [heap_ahead, Array.getElem?_modify, if_pos, hblk, Option.map_some]
        rfl
      rw [h1]
      congr 2
      apply Array.ext_getElem?
      intro i
      rw [show (putL 0 cur.toList (s.flatMap enc)).toArray[i]? = (putL 0 cur.toList (s.flatMap enc))[i]? from by simp, putL_get (by rw [Nat.zero_add, hsf]; simpa using hlen')]
      simp only [putCells, Array.getElem?_mapIdx, Nat.not_lt_zero, if_false, Nat.zero_add, size_flatK, List.size_toArray, hsl, hsf, Nat.sub_zero, Nat.zero_le, true_and]
      by_cases hi : i < l.length * k
      · have hic : i < cur.size := by omega
        simp only [hi, if_true, Array.getElem?_eq_getElem hic, Option.map_some, id]
        have hv : i < (s.flatMap enc).length := by omega
        have : (flatK enc k s.toArray)[i]? = some ((s.flatMap enc)[i]) := by rw [← Array.getElem?_toList, flatK_list C s]; exact List.getElem?_eq_getElem hv
        rw [List.getElem?_eq_getElem hv]
        simp [getElem!_def, this]
      · simp only [hi, if_false]
        rw [Array.getElem?_toList]
        cases cur[i]? <;> rfl
    have hother : ∀ j, j ≠ b → (putRowK enc k (Sort.ahead w n) b 0 s.toArray).heap[j]? = w.heap[j]? := fun j hj => by
      unfold putRowK putRow mapBlock
      simp only [heap_ahead, Array.getElem?_modify, Ne.symm hj, if_false]
    have hsize : (putRowK enc k (Sort.ahead w n) b 0 s.toArray).heap.size = w.heap.size := by unfold putRowK; simp
    have hpl : (putL 0 cur.toList (s.flatMap enc)).toArray.size = cur.size := by rw [List.size_toArray, putL_len (by rw [Nat.zero_add, hsf]; simpa using hlen')]; simp
    obtain ⟨m1, g1⟩ := m.rewriteG (id := 0) (b := b) (o' := .row false k (s.map d)) (w' := putRowK enc k (Sort.ahead w n) b 0 s.toArray) (by rw [hH]; rfl) hb rfl rfl rfl (Nat.le_add_right _ _) hsize hother (by
        unfold Passes
        rw [hH, upd_same]
        refine .inr ⟨⟨false, s.map d, rfl, by simp [hsl]⟩, rfl, fun b' c' t hbb hblk' => ?_⟩
        rw [hb] at hbb; injection hbb with hbb; subst hbb
        rw [hblk] at hblk'; injection hblk' with hblk'; injection hblk' with q1 q2; subst q1; subst q2
        exact ⟨_, e, hput, hpl⟩) (fun hD _ => by
        unfold ObjR
        rw [upd_same]
        refine ⟨hpos, fun x hx => by obtain ⟨y, _, rfl⟩ := List.mem_map.1 hx; exact C.lenD y, .inr ⟨b, e, _, hb, hput, by rw [hpl]; simpa [hsl] using hlen', fun i dd v hd hv => ?_⟩⟩
        have hfs : (flatD (s.map d)).length = l.length * k := by rw [flat_len (size := k) (fun x hx => by obtain ⟨y, _, rfl⟩ := List.mem_map.1 hx; exact C.lenD y)]; simp [hsl]
        have hi : i < l.length * k := by have := (List.getElem?_eq_some_iff.1 hd).1; omega
        rw [List.getElem?_toArray, putL_get (by rw [Nat.zero_add, hsf]; simpa using hlen'), if_neg (by omega), if_pos (by omega), Nat.sub_zero] at hv
        refine ⟨?_, ((flat_cells C s i dd v hd hv) _ _ _).2 rfl⟩
        obtain ⟨x, _, hx⟩ := List.mem_flatMap.1 (List.mem_of_getElem? hv)
        exact C.one x v hx)
    obtain ⟨m2, g2⟩ := m1.grow (w' := sortWorldK enc k w b 0 n s.toArray os) ⟨rfl, rfl, rfl, by unfold sortWorldK; simp, fun j hj => heap_grow_old _ _ hj, Nat.le_refl _⟩
    refine ⟨_, β, rfl, ?_, .tup [] [] rfl (by simp)⟩
    rw [hfin]
    exact m2
  · have hl0 : l = [] := List.eq_nil_of_length_eq_zero hz
    subst hl0
    refine (AnyF.slices_SortFunc_none (P := P) (ρ := ρ) { L with } p 0 (.func (.func g) #[] #[]) w).mono ?_
    rintro e w' ⟨rfl, rfl⟩
    refine ⟨_, β, rfl, ?_, .tup [] [] rfl (by simp)⟩
    rw [hfin]
    simp only [List.mergeSort_nil]
    rw [upd_id hH]
    exact m
end
end Go.Eng

/-
  The engine, part X: a range over a function whose body ends normally, with an invariant that may speak of what was drawn. No condition.
-/
namespace Go.Eng
open Go.RowKit

/-- What is said abides new blocks, and the turn of a block from B on that is no cells. -/
def AbW {β : Type} (B : Nat) (J : β → World → Prop) : Prop :=
  ∀ s W W' row, J s W → W.grownBy W' row → W.drawn ≤ W'.drawn → (∀ r, row = some r → B ≤ r ∧ ∃ o : Obj, W.heap[r]? = some o ∧ o.isCells = false) → J s W'
theorem AbW.putObj {β : Type} {B : Nat} {J : β → World → Prop} (h : AbW B J) {s : β} {W : World} {l : Nat} {o : Obj} (o' : Obj) (hs : J s W) (hB : B ≤ l) (hl : W.heap[l]? = some o) (ho : o.isCells = false) : J s (W.putObj l o') :=
  h s W _ (some l) hs (grownBy_putObj' W l o') (Nat.le_refl _) (fun r e => by cases e; exact ⟨hB, o, hl, ho⟩)
theorem AbW.alloc {β : Type} {B : Nat} {J : β → World → Prop} (h : AbW B J) {s : β} {W : World} (o : Obj) (hs : J s W) : J s (W.alloc o) :=
  h s W _ none hs (World.grownBy_alloc W o none) (Nat.le_refl _) (fun r e => by cases e)

/-- What a round leaves. -/
def roundEnd {α : Type} (B : Nat) (I : List α → World → Prop) (xs : List α) (W : World) : Exit → Act → World → Prop
  | .normal, _, W' => KeepsFrom B W W' ∧ KeepsWalks W W' ∧ I xs W'
  | _, _, _ => False

theorem wpIn_rangeFunc_gives {F : Fence} {n : Nat} {P : Program} {w : World} {α : Type} {g : Operand} {p : Tmp} {assign body : Code} {Q : Exit → Act → World → Prop} {a : Act}
    (hro : F.round = none) (h1 : 1 ≤ n) {gf : Nat} {lb : Array Value} (hg : a.eval g = .func (.func gf) #[] lb) (hFg : F.fn gf) (eg : ∀ args w, (callFunc gf args).run P w = .ok (.enter gf args) w)
    {enc : α → Value} {S : List α → Prop} {N : Nat} (I : List α → World → Prop) (hI : AbW w.heap.size I) (h0 : I [] w)
    (hseq : ∀ (l : Nat) (J : List α → World → Prop) (W1 : World), I [] W1 → w.heap.size ≤ W1.heap.size → AbW W1.heap.size J →
      (∀ pre x W, J pre W → pre.length < N → YieldAt F (n - 1 - 1) P l #[enc x] W fun e W' => e = .returned (.bool true) ∧ J (pre ++ [x]) W' ∧ KeepsWalks W W') → J [] W1 →
      CallsIn F (n - 1) P gf (#[.func (.yield l) #[] #[]] ++ lb) W1 fun e W' => (∃ v, e = .returned v) ∧ ∃ xs, S xs ∧ J xs W')
    (Ax : α → Act → World → Prop) (hAx : ∀ x a', AbW w.heap.size (fun (_ : Unit) W => Ax x a' W))
    (hassign : ∀ (l : Nat) (pre : List α) (x : α) (W : World) (K : Act → World → Prop), I pre W → (∀ a' W', W.grownBy W' none → W.drawn ≤ W'.drawn → Ax x a' W' → K a' W') →
      assign.wpIn (F.inRound l) (n - 1 - 1) P (Exit.then K (fun _ _ _ => False)) { tmps := a.tmps.setIfInBounds p (enc x), defers := [] } W)
    (hbody : ∀ (l : Nat) (pre : List α) (x : α) (a' : Act) (W : World), I pre W → Ax x a' W → pre.length < N → body.wpIn (F.inRound l) (n - 1 - 1) P (roundEnd w.heap.size I (pre ++ [x]) W) a' W)
    (hdone : ∀ (D : Nat) (xs : List α) (W : World), w.heap.size ≤ D → S xs → I xs W → W.heap[D]? = some (.deferred (some [])) → Q .normal { a with defers := { target := .collected D, args := #[] } :: a.defers } W) :
    (Code.rangeFunc g #[p] assign body).wpIn F n P Q a w := by
  refine wpIn_rangeFunc ?_
  intro fn hfn
  rw [hro]
  obtain ⟨rec, hrec⟩ : ∃ rec : LoopState → Option Code → Loop, rec = fun st pe => { state := st, pending := pe, fn, tmps := a.tmps, params := #[p], assign, body, defers := w.heap.size } := ⟨_, rfl⟩
  obtain ⟨W1, hW1⟩ : ∃ W1, (w.alloc (.deferred (some []))).alloc (.loop (rec .ready none)) = W1 := ⟨_, rfl⟩
  have hL1 : W1.heap[w.heap.size + 1]? = some (.loop (rec .ready none)) := by
    rw [← hW1]; have := World.alloc_heap_new (w.alloc (.deferred (some []))) (.loop (rec .ready none)); rwa [World.size_alloc] at this
  have hK1 : W1.heap[w.heap.size]? = some (.deferred (some [])) := by
    rw [← hW1]; exact (Below.heap_alloc _ _ _ (by simp)).trans (World.alloc_heap_new w _)
  have hI1 : I [] W1 := by rw [← hW1]; exact hI.alloc _ (hI.alloc _ h0)
  have hs1 : W1.heap.size = w.heap.size + 2 := by rw [← hW1]; simp
  refine ⟨w.heap.size + 1, [{ target := .collected w.heap.size, args := #[] }], W1, { target := .fn (.func gf) lb, args := #[.func (.yield (w.heap.size + 1)) #[] #[]] }, W1, gf,
    #[.func (.yield (w.heap.size + 1)) #[] #[]] ++ lb, W1, ?_, ?_, ?_, ?_, fun _ => h1, ?_⟩
  · rw [← hW1, hrec]; exact run_enterLoop_outer _ _ _ _ _
  · simp only [resolve, hg]
    simp [go_sem]
  · intro f' hf'; simp [Target.leads] at hf'; subst hf'; exact hFg
  · simp [invoke, go_sem, eg]
  · have keep : ∀ {A B : World} {row : Option Nat} {k : Nat} {o : Obj}, A.grownBy B row → (∀ r, row = some r → W1.heap.size ≤ r ∧ ∃ o : Obj, A.heap[r]? = some o ∧ o.isCells = false) → k < W1.heap.size → A.heap[k]? = some o → B.heap[k]? = some o := fun {A B row k o} hg' hr hk ho =>
      (hg'.block k (Array.getElem?_eq_some_iff.1 ho).1 (fun e => by have := (hr k e.symm).1; omega)).trans ho
    refine (hseq (w.heap.size + 1) (fun pre W => I pre W ∧ W.heap[w.heap.size + 1]? = some (.loop (rec .ready none)) ∧ W.heap[w.heap.size]? = some (.deferred (some []))) W1 hI1 (by omega)
      (fun s A B row hs hg' hd hr => ⟨hI s A B row hs.1 hg' hd (fun r e => ⟨by have := (hr r e).1; omega, (hr r e).2⟩), keep hg' hr (by omega) hs.2.1, keep hg' hr (by omega) hs.2.2⟩)
      ?_ ⟨hI1, hL1, hK1⟩).mono ?_
    · rintro pre x W ⟨hi, hl, hk⟩ hlen
      have hlt : w.heap.size + 1 < W.heap.size := (Array.getElem?_eq_some_iff.1 hl).1
      have hy : (Instr.yield (w.heap.size + 1) #[enc x]).run P W = .ok (.round (w.heap.size + 1) fn (a.tmps.setIfInBounds p (enc x)) assign body) W := by
        have := run_yield (P := P) (args := #[enc x]) hl (by rw [hrec]; simp)
        rw [hrec] at this
        simpa using this
      refine ⟨fn, _, assign, body, hy, roundIn_of_wpIn hfn (hassign _ pre x W _ hi ?_)⟩
      intro a' Wa hga hda hax
      have hla := (hga.block _ (Array.getElem?_eq_some_iff.1 hl).1 (by simp)).trans hl
      have hka := (hga.block _ (Array.getElem?_eq_some_iff.1 hk).1 (by simp)).trans hk
      have hia : I pre Wa := hI pre W Wa none hi hga hda (fun r e => by cases e)
      have hwa : KeepsWalks W Wa := KeepsWalks.of_grownBy hga (fun j o e => by cases e)
      have hlta : w.heap.size + 1 < Wa.heap.size := (Array.getElem?_eq_some_iff.1 hla).1
      refine ⟨_, run_beginRound hla (by rw [hrec]), ?_⟩
      have hl2 : (Wa.putObj (w.heap.size + 1) (.loop { rec .ready none with state := .busy })).heap[w.heap.size + 1]? = some (.loop { rec .ready none with state := .busy }) := World.putObj_heap_same hlta
      have hk2 : (Wa.putObj (w.heap.size + 1) (.loop { rec .ready none with state := .busy })).heap[w.heap.size]? = some (.deferred (some [])) := (World.putObj_heap_other (by omega)).trans hka
      have hw2 : KeepsWalks Wa (Wa.putObj (w.heap.size + 1) (.loop { rec .ready none with state := .busy })) := KeepsWalks.putObj _ hla rfl
      refine wpIn_mono (hbody _ pre x a' _ (hI.putObj _ hia (by omega) hla rfl) ((hAx x a').putObj (s := ()) _ hax (by omega) hla rfl) hlen) ?_
      rintro e a3 W3 hp
      cases e with
      | normal =>
        obtain ⟨hk3, hkp3, hi3⟩ := hp
        have hl3 := hk3.same _ _ (by omega) hl2 rfl
        have hd3 := hk3.same _ _ (Nat.le_refl _) hk2 rfl
        have hr := run_endRound (P := P) none hl3
        refine ⟨_, _, hr, rfl, ⟨hI.putObj _ hi3 (by omega) hl3 rfl, ?_, (World.putObj_heap_other (by omega)).trans hd3⟩, (hwa.trans hw2).trans (hkp3.trans (KeepsWalks.putObj _ hl3 rfl))⟩
        have := World.putObj_heap_same (w := W3) (o := .loop (rec .ready none)) (Array.getElem?_eq_some_iff.1 hl3).1
        rw [hrec] at this ⊢
        exact this
      | ret => exact hp.elim
      | exit id => exact hp.elim
      | goto t => exact hp.elim
      | panic ch => exact hp.elim
      | outgrown => exact hp.elim
    · rintro e W2 ⟨⟨v, rfl⟩, xs, hS, hi, hl, hk⟩
      exact ⟨none, _, by have := run_endLoop (P := P) hl (by rw [hrec]; simp); rw [hrec] at this; exact this, hdone _ xs _ (Nat.le_refl _) hS (hI.putObj _ hi (by omega) hl rfl) ((World.putObj_heap_other (by omega)).trans hk)⟩

/-- A slice value that has a row to its end: the row b0 that was handed in, or one laid from block base on; or it has no room. -/
structure RowAt (s : Nat) (b0 : Option Nat) (base : Nat) (W : World) (v : Value) (n : Nat) (cells : List Value) (gb : Option Nat) : Prop where
  len : cells.length = n * s
  one : ∀ u ∈ cells, u.oneCell' = true
  lies : (gb = none ∧ n = 0 ∧ ∃ a, v = .slice a 0 0) ∨ ∃ g cap cur e, gb = some g ∧ v = .slice (some ⟨g, 0, none⟩) n cap ∧ (b0 = some g ∨ base ≤ g) ∧ W.heap[g]? = some (.cells cur e (0, 0)) ∧ n ≤ cap ∧ cap ≤ maxLen ∧ cap * s = cur.size ∧ cur.toList.take (n * s) = cells
theorem RowAt.kept {s : Nat} {b0 : Option Nat} {base : Nat} {W W' : World} {v : Value} {n : Nat} {cells : List Value} {gb row : Option Nat} (h : RowAt s b0 base W v n cells gb) (hg : W.grownBy W' row) (hr : gb = none ∨ gb ≠ row) : RowAt s b0 base W' v n cells gb := by
  refine ⟨h.len, h.one, ?_⟩
  rcases h.lies with h1 | ⟨g, cap, cur, e, rfl, h2, h3, h4, h5⟩
  · exact .inl h1
  · refine .inr ⟨g, cap, cur, e, rfl, h2, h3, (hg.block g (Array.getElem?_eq_some_iff.1 h4).1 (fun e' => ?_)).trans h4, h5⟩
    rcases hr with hr | hr
    · cases hr
    · exact hr e'
theorem RowAt.append {P : Program} {t e : TypeId} {i : TypeInfo} {z : Value} {s : Nat} (ty : TypeId) (ht : P.underlying t = some (.slice e)) (hi : P.info? e = some i) (hz : i.zero = some z) (hsz : i.size = s) (hzs : z.cells.size = s) (hs : 0 < s)
    {b0 : Option Nat} {base : Nat} {W : World} {v : Value} {n : Nat} {cells : List Value} {gb : Option Nat} (h : RowAt s b0 base W v n cells gb) (hbase : base ≤ W.heap.size) {ad c : Nat} {news : List Value} (hn : news.length = s) (h1 : ∀ u ∈ news, u.oneCell' = true)
    (hc : ∀ (j : Nat) (u : Value), news[j]? = some u → W.cell? ⟨ad, j, none⟩ = some u) (hb : (n + 1) * i.bytes ≤ 140737488355328) (hm : n + 1 ≤ 140737488355328) :
    ∃ v' W' g', (Builtin.append_ #[t, t] ty #[v, .slice (some ⟨ad, 0, none⟩) 1 c]).run P W = .ok v' W' ∧ RowAt s b0 base W' v' (n + 1) (cells ++ news) (some g') ∧ W.grownBy W' gb ∧ W.drawn ≤ W'.drawn ∧ (gb = some g' ∨ g' = W.heap.size) ∧
      ((g' = W.heap.size ∧ W.grownBy W' none) ∨ (gb = some g' ∧ ∀ cur e, W.heap[g']? = some (.cells cur e (0, 0)) → ∃ cur', W'.heap[g']? = some (.cells cur' e (0, 0)) ∧ cur'.size = cur.size ∧ cur'.toList.take (n * s) = cur.toList.take (n * s))) := by
  have hlen : (cells ++ news).length = (n + 1) * s := by rw [List.length_append, h.len, hn, Nat.add_mul]; omega
  have hone : ∀ u ∈ cells ++ news, u.oneCell' = true := fun u hu => (List.mem_append.1 hu).elim (h.one u) (h1 u)
  have hlo : (Builtin.lenOf (.slice (some ⟨ad, 0, none⟩) 1 c)).run P W = .ok 1 W := by simp [Builtin.lenOf]
  have hf : ∀ w2 : World, w2.heap = W.heap → (Builtin.firstCells i.size 1 (.slice (some ⟨ad, 0, none⟩) 1 c)).run P w2 = .ok news.toArray w2 := fun w2 hw =>
    run_firstCells (by rw [hsz]; omega) fun j u hu => by rw [cell_heap hw]; simpa using hc j u hu
  have hd : ∀ k, (TypeDesc.slice e) ≠ .int k := fun k => by simp
  have out : ∀ {ba : Option Addr} {cap : Nat} (olds : List Value), olds = cells → (∀ w2 : World, w2.heap = W.heap → (Builtin.firstCells i.size n (.slice ba n cap)).run P w2 = .ok olds.toArray w2) → cap < n + 1 → 
      ∃ v' W' g', (Builtin.append_ #[t, t] ty #[.slice ba n cap, .slice (some ⟨ad, 0, none⟩) 1 c]).run P W = .ok v' W' ∧ RowAt s b0 base W' v' (n + 1) (cells ++ news) (some g') ∧ W.grownBy W' gb ∧ W.drawn ≤ W'.drawn ∧ (gb = some g' ∨ g' = W.heap.size) ∧
      ((g' = W.heap.size ∧ W.grownBy W' none) ∨ (gb = some g' ∧ ∀ cur e, W.heap[g']? = some (.cells cur e (0, 0)) → ∃ cur', W'.heap[g']? = some (.cells cur' e (0, 0)) ∧ cur'.size = cur.size ∧ cur'.toList.take (n * s) = cur.toList.take (n * s))) := by
    intro ba cap olds ho hol hcap
    subst ho
    have hrun := run_append_out (P := P) (w := W) (ty := ty) (base := ba) (sLen := n) (sCap := cap) ht ht hd hi hz hlo hf hol hcap (by omega) hb
    have hge := grownCap_ge W (n + 1) cap e
    have hgc : (olds.toArray ++ news.toArray ++ Builtin.zeroCells z.cells (grownCap W (n + 1) cap e - (n + 1))).size = grownCap W (n + 1) cap e * s := by
      simp only [Array.size_append, List.size_toArray, size_zeroCells, hzs, h.len, hn]
      have : (n + 1 + (grownCap W (n + 1) cap e - (n + 1))) * s = n * s + s + (grownCap W (n + 1) cap e - (n + 1)) * s := by rw [Nat.add_mul, Nat.add_mul]; omega
      rw [← this]; congr 1; omega
    refine ⟨_, _, _, hrun, ⟨hlen, hone, .inr ⟨_, _, _, e, rfl, rfl, .inr hbase, heap_alloc_new W.drew _, hge, grownCap_le_maxLen W (n + 1) cap e (by unfold maxLen; omega), hgc.symm, ?_⟩⟩, ⟨rfl, rfl, rfl, by simp, fun k hk _ => heap_alloc_old W.drew _ hk⟩, Nat.le_succ _, .inr rfl, .inl ⟨rfl, ⟨rfl, rfl, rfl, by simp, fun k hk _ => heap_alloc_old W.drew _ hk⟩⟩⟩
    rw [← hlen]
    simp only [Array.toList_append, List.append_assoc]
    rw [← List.append_assoc, List.take_left]
  rcases h.lies with ⟨rfl, rfl, a, rfl⟩ | ⟨g, cap, cur, e', rfl, rfl, hbg, hblk, hnc, hcm, hcs, htk⟩
  · have hc0 : cells = [] := List.eq_nil_of_length_eq_zero (by simpa using h.len)
    refine out [] hc0.symm (fun w2 _ => by cases a <;> simp [Builtin.firstCells, loadCells, loadCellsFrom]) (by omega)
  · by_cases hroom : n + 1 ≤ cap
    · have hfit : n * s + news.length ≤ cur.size := by
        rw [hn, ← hcs]
        have : (n + 1) * s ≤ cap * s := Nat.mul_le_mul_right _ hroom
        rw [Nat.add_mul] at this; omega
      have hrun := run_append_in (P := P) (w := W) (ty := ty) (base := some ⟨g, 0, none⟩) (sLen := n) (sCap := cap) ht ht hd hi hlo hf hroom
      have hst := run_storeCells_at P g (n * s) e' news 0 cur W hblk (by omega) h1
      simp only [Nat.add_zero] at hst
      simp only [Addr.add_lit, Nat.zero_add, hsz] at hrun
      rw [hst] at hrun
      have hcl : cur.toList.length = cur.size := by simp
      refine ⟨_, _, g, hrun, ⟨hlen, hone, .inr ⟨g, cap, _, e', rfl, rfl, hbg, setRow_heap W g cur _ e' (0, 0) hblk, hroom, hcm, ?_, ?_⟩⟩, ⟨rfl, rfl, rfl, by simp, fun k _ hk => setRow_other W g k _ (fun e => hk (by rw [e]))⟩, Nat.le_refl _, .inl rfl, .inr ⟨rfl, fun cur2 e2 hc2 => ?_⟩⟩
      · rw [hcs]; simp only [List.size_toArray, List.length_append, List.length_take, List.length_drop, hcl]; omega
      · simp only [htk]
        rw [List.append_assoc, ← List.append_assoc, ← hlen, List.take_left]
      · rw [hblk] at hc2; injection hc2 with hc2; injection hc2 with p1 p2; subst p1; subst p2
        refine ⟨_, setRow_heap W g cur _ e' (0, 0) hblk, ?_, ?_⟩
        · simp only [List.size_toArray, List.length_append, List.length_take, List.length_drop, hcl]; omega
        · simp only [htk]
          rw [List.append_assoc, ← h.len, List.take_left]
    · refine out (cur.toList.take (n * s)) htk (fun w2 hw => ?_) (by omega)
      refine run_firstCells (by rw [hsz, List.length_take, Array.length_toList, ← hcs]; have : n * s ≤ cap * s := Nat.mul_le_mul_right _ hnc; omega) fun j u hu => ?_
      rw [cell_heap hw, cell_of_row W g _ cur e' (0, 0) hblk]
      rw [List.getElem?_take] at hu
      split at hu
      · simpa using hu
      · cases hu

theorem wpListIn_append_row {F : Fence} {nF : Nat} {P : Program} (W : World) {ops : Array Oper} {rest : List Oper} {o : Oper} {a : Act} {Q : Exit → Act → World → Prop} (hg : o.guard = none) (sl x : Operand) (t : TypeId) (ho : o.op = .call { callee := .builtin .append, args := #[sl, x], argTypes := #[t, t] })
    {e : TypeId} {i : TypeInfo} {z : Value} {s : Nat} (ht : P.underlying t = some (.slice e)) (hi : P.info? e = some i) (hz : i.zero = some z) (hsz : i.size = s) (hzs : z.cells.size = s) (hs : 0 < s)
    {b0 : Option Nat} {base : Nat} {v : Value} {n : Nat} {cells : List Value} {gb : Option Nat} (hv : a.eval sl = v) (h : RowAt s b0 base W v n cells gb) (hbase : base ≤ W.heap.size) {ad c : Nat} {news : List Value} (hx : a.eval x = .slice (some ⟨ad, 0, none⟩) 1 c) (hn : news.length = s) (h1 : ∀ u ∈ news, u.oneCell' = true)
    (hc : ∀ (j : Nat) (u : Value), news[j]? = some u → W.cell? ⟨ad, j, none⟩ = some u) (hb : (n + 1) * i.bytes ≤ 140737488355328) (hm : n + 1 ≤ 140737488355328)
    (hK : ∀ v' W' g', RowAt s b0 base W' v' (n + 1) (cells ++ news) (some g') → W.grownBy W' gb → W.drawn ≤ W'.drawn → (gb = some g' ∨ g' = W.heap.size) →
      ((g' = W.heap.size ∧ W.grownBy W' none) ∨ (gb = some g' ∧ ∀ cur e, W.heap[g']? = some (.cells cur e (0, 0)) → ∃ cur', W'.heap[g']? = some (.cells cur' e (0, 0)) ∧ cur'.size = cur.size ∧ cur'.toList.take (n * s) = cur.toList.take (n * s))) → wpListIn F nF P ops Q rest (a.put o.dst v') W') : wpListIn F nF P ops Q (o :: rest) a W := by
  refine wpListIn_plain hg fun K hK' => ?_
  obtain ⟨v', W', g', hr, h2, h3, h4, h5, h6⟩ := h.append o.type ht hi hz hsz hzs hs hbase hn h1 hc hb hm
  unfold Oper.wpIn
  refine ⟨by simp [Oper.about, ho, resolve, Target.leads, Sem.run_pure], ?_⟩
  rw [Oper.semAt_plain F _ _ (by rw [ho]; intro c hc'; cases hc')]
  simp [execOp, ho, resolve, invoke, builtin, hv, hx, Result.andThen]
  rw [hr]
  exact hK' _ _ (hK v' W' g' h2 h3 h4 h5 h6)

/-- Nothing that lay in W0 has turned but the row b0. -/
structure Still (b0 : Option Nat) (W0 W : World) : Prop where
  os : W.os = W0.os
  tape : W.tape = W0.tape
  output : W.output = W0.output
  size : W0.heap.size ≤ W.heap.size
  block : ∀ k, k < W0.heap.size → some k ≠ b0 → W.heap[k]? = W0.heap[k]?
  drawn : W0.drawn ≤ W.drawn
theorem Still.refl (b0 : Option Nat) (W : World) : Still b0 W W := ⟨rfl, rfl, rfl, Nat.le_refl _, fun _ _ _ => rfl, Nat.le_refl _⟩
theorem Still.step {b0 : Option Nat} {W0 W W' : World} {row : Option Nat} (h : Still b0 W0 W) (hg : W.grownBy W' row) (hd : W.drawn ≤ W'.drawn) (hr : ∀ r, row = some r → b0 = some r ∨ W0.heap.size ≤ r) : Still b0 W0 W' :=
  ⟨hg.os.trans h.os, hg.tape.trans h.tape, hg.output.trans h.output, Nat.le_trans h.size hg.size, fun k hk hb => (hg.block k (Nat.lt_of_lt_of_le hk h.size) (fun e => by rcases hr k e.symm with q | q; exact hb q.symm; omega)).trans (h.block k hk hb), Nat.le_trans h.drawn hd⟩

/-- The head of the row b0 is as it was. -/
def Head0 (m : Nat) (b0 : Option Nat) (W0 W : World) : Prop := ∀ g cur0 e0, b0 = some g → W0.heap[g]? = some (.cells cur0 e0 (0, 0)) → ∃ cur, W.heap[g]? = some (.cells cur e0 (0, 0)) ∧ cur.size = cur0.size ∧ cur.toList.take m = cur0.toList.take m
theorem Head0.refl (m : Nat) (b0 : Option Nat) (W : World) : Head0 m b0 W W := fun _ cur0 _ _ h => ⟨cur0, h, rfl, rfl⟩
theorem Head0.step {m : Nat} {b0 : Option Nat} {W0 W W' : World} {row : Option Nat} (h : Head0 m b0 W0 W) (hg : W.grownBy W' row) (hr : b0 = none ∨ b0 ≠ row) : Head0 m b0 W0 W' := fun g cur0 e0 hb h0 => by
  obtain ⟨cur, h1, h2, h3⟩ := h g cur0 e0 hb h0
  refine ⟨cur, (hg.block g (Array.getElem?_eq_some_iff.1 h1).1 (fun e => ?_)).trans h1, h2, h3⟩
  rcases hr with hr | hr
  · rw [hr] at hb; cases hb
  · exact hr (hb.trans e)
theorem Head0.write {m n : Nat} {b0 gb : Option Nat} {W0 W W' : World} {g' : Nat} (h : Head0 m b0 W0 W) (hn : m ≤ n) (hg : W.grownBy W' gb)
    (hw : (g' = W.heap.size ∧ W.grownBy W' none) ∨ (gb = some g' ∧ ∀ cur e, W.heap[g']? = some (.cells cur e (0, 0)) → ∃ cur', W'.heap[g']? = some (.cells cur' e (0, 0)) ∧ cur'.size = cur.size ∧ cur'.toList.take n = cur.toList.take n)) : Head0 m b0 W0 W' := by
  rcases hw with ⟨_, hg'⟩ | ⟨hgb, hw⟩
  · exact h.step hg' (by cases b0 <;> simp)
  · by_cases e : b0 = gb
    · intro g cur0 e0 hb h0
      rw [e, hgb] at hb; injection hb with hb; subst hb
      obtain ⟨cur, h1, h2, h3⟩ := h g' cur0 e0 (e.trans hgb) h0
      obtain ⟨cur', q1, q2, q3⟩ := hw cur e0 h1
      refine ⟨cur', q1, q2.trans h2, ?_⟩
      have := congrArg (List.take m) q3
      rw [List.take_take, List.take_take, Nat.min_eq_left hn] at this
      exact this.trans h3
    · exact h.step hg (.inr e)

section
variable {w0 : Base} {X : Nat → Prop} {H : Nat → LObj} {β : Nat → Option Nat} {w w' : World} {α : Type} [Inhabited α] {k : Nat} {d : α → DV} {enc : α → List Value}
theorem Cells.flat_len (C : Cells k d enc) (l : List α) : (l.flatMap enc).length = l.length * k := by rw [← flatK_list C l]; simp
theorem Cells.flatD_len {α : Type} {k : Nat} {d : α → DV} {enc : α → List Value} (C : Cells k d enc) (l : List α) : (flatD (l.map d)).length = l.length * k := by
  rw [Go.Eng.flat_len (size := k) (fun x hx => by obtain ⟨y, _, rfl⟩ := List.mem_map.1 hx; exact C.lenD y)]; simp
theorem Cells.all {α : Type} {k : Nat} {d : α → DV} {enc : α → List Value} (C : Cells k d enc) (l : List α) : ∀ x ∈ l.map d, (cellsD x).length = k := fun x hx => by obtain ⟨y, _, rfl⟩ := List.mem_map.1 hx; exact C.lenD y
/-- A row whose head holds elements reads as them. -/
theorem Cells.reads (C : Cells k d enc) {l : List α} {cur : Array Value} (h : cur.toList.take (l.length * k) = l.flatMap enc) : l.length * k ≤ cur.size ∧ ∀ (E : Nat → Prop) (W : World) (i : Nat) (c : DV) (v : Value), (flatD (l.map d))[i]? = some c → cur[i]? = some v → v.oneCell' = true ∧ RD W E c v := by
  have hl := congrArg List.length h
  rw [List.length_take, C.flat_len] at hl
  have hcl : cur.toList.length = cur.size := by simp
  refine ⟨by omega, fun E W i c v hc hv => ?_⟩
  have hi : i < l.length * k := by have := (List.getElem?_eq_some_iff.1 hc).1; rw [C.flatD_len] at this; exact this
  have hv' : (l.flatMap enc)[i]? = some v := by rw [← h, List.getElem?_take, if_pos hi]; simpa using hv
  refine ⟨?_, (flat_cells C l i c v hc hv' _ _ _).2 rfl⟩
  obtain ⟨x, _, hx⟩ := List.mem_flatMap.1 (List.mem_of_getElem? hv')
  exact C.one x v hx
/-- A row that reads as elements holds them. -/
theorem Cells.holds (C : Cells k d enc) {l : List α} {cur : Array Value} (hn : l.length * k ≤ cur.size) {E : Nat → Prop} {W : World} (h : ∀ (i : Nat) (c : DV) (v : Value), (flatD (l.map d))[i]? = some c → cur[i]? = some v → RD W E c v) : cur.toList.take (l.length * k) = l.flatMap enc := by
  apply List.ext_getElem?
  intro i
  rw [List.getElem?_take]
  by_cases hi : i < l.length * k
  · rw [if_pos hi]
    have h1 : i < cur.size := by omega
    have h2 : i < (l.flatMap enc).length := by rw [C.flat_len]; exact hi
    have h3 : i < (flatD (l.map d)).length := by rw [C.flatD_len]; exact hi
    have := (flat_cells C l i _ _ (List.getElem?_eq_getElem h3) (List.getElem?_eq_getElem h2) W E _).1 (h i _ _ (List.getElem?_eq_getElem h3) (Array.getElem?_eq_getElem h1))
    rw [List.getElem?_eq_getElem h2, ← this]
    simp [h1]
  · rw [if_neg hi, List.getElem?_eq_none (by rw [C.flat_len]; omega)]
theorem upd_upd (f : Nat → LObj) (i : Nat) (x y : LObj) : upd (upd f i x) i y = upd f i y := by funext j; simp only [upd]; split <;> rfl

/-- A slice of the call's own has been appended to, somewhere out of sight: it is a new object. -/
theorem Mem.appended (C : Cells k d enc) (m : Mem w0 X H β w) {id new : Nat} {l p : List α} {b0 gb : Option Nat} {v : Value} (hH : H id = .row false k (l.map d)) (hnew : H new = .absent) (hb0 : (b0 = none ∧ l = []) ∨ (∃ b, b0 = some b ∧ β id = some b ∧ ∃ cur e, w.heap[b]? = some (.cells cur e (0, 0)) ∧ cur.toList.take (l.length * k) = l.flatMap enc))
    (hr : RowAt k b0 w.heap.size w' v (l.length + p.length) ((l ++ p).flatMap enc) gb) (hs : Still b0 w w') (hh : Head0 (l.length * k) b0 w w') :
    ∃ β', Mem w0 X (upd (upd H id .dead) new (.row false k ((l ++ p).map d))) β' w' ∧ R w' (Ex X β' (upd (upd H id .dead) new (.row false k ((l ++ p).map d)))) β' (upd (upd H id .dead) new (.row false k ((l ++ p).map d))) (.ow new 0 (l.length + p.length)) v := by
  have hne : id ≠ new := fun e => by rw [e, hnew] at hH; cases hH
  have hlive : (H id).live = true := by rw [hH]; rfl
  have hmut : (H id).mut = true := by rw [hH]; rfl
  have hn' : (l ++ p).length = l.length + p.length := by simp
  -- the world without what is new
  obtain ⟨wm, hwm⟩ : ∃ wm : World, wm = { w with heap := w'.heap.extract 0 w.heap.size } := ⟨_, rfl⟩
  have hms : wm.heap.size = w.heap.size := by rw [hwm]; simp [hs.size]
  have hmk : ∀ j, j < w.heap.size → wm.heap[j]? = w'.heap[j]? := fun j hj => by
    rw [hwm]; simp only [Array.getElem?_extract]; have := hs.size
    rw [if_pos (by omega)]; congr 1; omega
  have hbel : Bel wm.heap.size wm w' := by
    refine ⟨?_, ?_, ?_, by rw [hms]; exact hs.size, fun j hj => (hmk j (by omega)).symm, ?_⟩ <;> rw [hwm]
    · exact hs.os
    · exact hs.tape
    · exact hs.output
    · exact hs.drawn
  have hm1 : Mem w0 X H β wm := by
    rcases hb0 with ⟨rfl, _⟩ | ⟨b, rfl, hb, cur, e, hblk, htk⟩
    · have e : wm = w := by
        have : w'.heap.extract 0 w.heap.size = w.heap := by
          apply Array.ext_getElem?
          intro j
          by_cases hj : j < w.heap.size
          · have h1 := hmk j hj
            rw [hwm] at h1
            exact h1.trans (hs.block j hj (by simp))
          · have := hs.size
            rw [Array.getElem?_extract, if_neg (by omega), Array.getElem?_eq_none (by omega)]
        rw [hwm, this]
      rw [e]; exact m
    · obtain ⟨cur', q1, q2, q3⟩ := hh b cur e rfl hblk
      have hbl := (Array.getElem?_eq_some_iff.1 hblk).1
      have hwb : wm.heap[b]? = some (.cells cur' e (0, 0)) := (hmk b hbl).trans q1
      have := m.rewriteG (id := id) (b := b) (o' := .row false k (l.map d)) (w' := wm) hmut hb (by rw [hwm]) (by rw [hwm]) (by rw [hwm]) (by rw [hwm]; exact Nat.le_refl _) hms (fun j hj => by
          by_cases hjl : j < w.heap.size
          · rw [hmk j hjl]; exact hs.block j hjl (fun e => hj (by injection e))
          · rw [Array.getElem?_eq_none (by omega), Array.getElem?_eq_none (by omega)]) (by
          unfold Passes
          rw [hH, upd_same]
          refine .inr ⟨⟨false, _, rfl, Nat.le_refl _⟩, rfl, fun b' c' t hbb hblk' => ?_⟩
          rw [hb] at hbb; injection hbb with hbb; subst hbb
          rw [hblk] at hblk'; injection hblk' with hblk'; injection hblk' with p1 p2; subst p1; subst p2
          exact ⟨cur', e, hwb, q2⟩) (fun _ _ => by
          unfold ObjR
          rw [upd_same]
          obtain ⟨r1, r2⟩ := C.reads (q3.trans htk)
          exact ⟨C.pos, C.all l, .inr ⟨b, e, cur', hb, hwb, by simpa using r1, r2 _ _⟩⟩)
      rw [upd_id hH] at this
      exact this.1
  -- the new object
  rcases hr.lies with ⟨rfl, hz, a, rfl⟩ | ⟨g, cap, cur, e, rfl, rfl, hbg, hblk, hnc, hcm, hcs, htk⟩
  · have hl0 : l = [] := List.eq_nil_of_length_eq_zero (by omega)
    have hp0 : p = [] := List.eq_nil_of_length_eq_zero (by omega)
    subst hl0; subst hp0
    obtain ⟨m2, _⟩ := hm1.kill id hlive
    obtain ⟨m3, _⟩ := m2.grow hbel
    obtain ⟨m4, _⟩ := new_none m3 (d := new) (by rw [upd_ne _ _ (Ne.symm hne)]; exact hnew) C.pos
    exact ⟨_, m4, .ow0 new 0 a false k [] (by rw [upd_same]; rfl) (.inl ⟨by rw [upd_same], rfl⟩)⟩
  · rw [← hn'] at htk
    obtain ⟨r1, r2⟩ := C.reads htk
    have hbr : ∀ (β' : Nat → Option Nat) (H' : Nat → LObj), H' new = .row false k ((l ++ p).map d) → β' new = some g → R w' (Ex X β' H') β' H' (.ow new 0 (l.length + p.length)) (.slice (some ⟨g, 0, none⟩) (l.length + p.length) cap) := fun β' H' h1 h2 => by
      have hR := R.ow (w := w') (E := Ex X β' H') (β := β') (H := H') new 0 (l.length + p.length) g cap false k ((l ++ p).map d) cur e h1 h2 (by simp) hnc hcm hblk (by rw [Nat.zero_add]; exact hcs)
      rw [Nat.zero_mul] at hR
      exact hR
    by_cases hgl : g < w.heap.size
    · have hbg' : b0 = some g := hbg.resolve_right (by omega)
      have hβ : β id = some g := by
        rcases hb0 with ⟨h, _⟩ | ⟨b, h, hb, _⟩
        · rw [h] at hbg'; cases hbg'
        · rw [h] at hbg'; injection hbg' with hbg'; rw [← hbg']; exact hb
      obtain ⟨m2, _⟩ := hm1.grow hbel
      obtain ⟨m3, _⟩ := m2.moveObj (id := id) (d := new) l.length hH hnew
      have := m3.rewriteG (id := new) (b := g) (o' := .row false k ((l ++ p).map d)) (w' := w') (by rw [upd_same]; rfl) (by rw [upd_same]; exact hβ) rfl rfl rfl (Nat.le_refl _) rfl (fun _ _ => rfl) (by
          unfold Passes
          rw [upd_same, upd_same]
          exact .inr ⟨⟨false, _, rfl, by simp⟩, rfl, fun b' c' t _ hblk' => ⟨c', t, hblk', rfl⟩⟩) (fun _ _ => by
          unfold ObjR
          rw [upd_same]
          exact ⟨C.pos, C.all _, .inr ⟨g, e, cur, by rw [upd_same]; exact hβ, hblk, by simpa using r1, r2 _ _⟩⟩)
      rw [upd_upd] at this
      exact ⟨_, this.1, hbr _ _ (by rw [upd_same]) (by rw [upd_same]; exact hβ)⟩
    · obtain ⟨m2, _⟩ := hm1.kill id hlive
      have hgs := (Array.getElem?_eq_some_iff.1 hblk).1
      have := m2.newObj hbel (d := new) (by rw [upd_ne _ _ (Ne.symm hne)]; exact hnew) (o := .row false k ((l ++ p).map d)) (some g) (fun b hb => by injection hb with hb; subst hb; exact ⟨by omega, hgs⟩) (fun _ _ => by
          unfold ObjR
          rw [upd_same]
          exact ⟨C.pos, C.all _, .inr ⟨g, e, cur, by rw [upd_same], hblk, by simpa using r1, r2 _ _⟩⟩)
      exact ⟨_, this.1, hbr _ _ (by rw [upd_same]) (by rw [upd_same])⟩
end
end Go.Eng

/-
  The engine, part Y: an empty slice in a cell of a variable is taken for a row of the call's own. No condition.
-/
namespace Go.Eng
open Go.RowKit
section
variable {P : Program} {N : Nat} {w0 : Base} {X : Nat → Prop} {Q : LX → Env → Obs → Prop} {env : Env} {H : Obs}
theorem LWp.nlCell {c : Code} (b j id s : Nat) {fz : Bool} {cs : List LV} (hs : 0 < s) (h : H b = .box fz cs ∧ cs[j]? = some .nl ∧ H id = .absent ∧ LWp P N w0 X c Q env (upd (upd H id (.row false s [])) b (.box fz (cs.set j (.ow id 0 0))))) : LWp P N w0 X c Q env H := by
  obtain ⟨hb, hj, hid, h⟩ := h
  have hne : b ≠ id := fun e => by rw [e, hid] at hb; cases hb
  intro β a w sm
  obtain ⟨m1, g1⟩ := new_none sm.mem hid hs
  obtain ⟨m2, g2⟩ := m1.rebox (b := b) (fz := fz) (cs := cs) (cs' := cs.set j (.ow id 0 0)) (by rw [upd_ne _ _ hne]; exact hb) (by simp) fun i c c' v hc hc' hr => by
    rw [List.getElem?_set] at hc'
    by_cases e : j = i
    · subst e
      rw [hj] at hc; injection hc with hc; subst hc
      have hl := (List.getElem?_eq_some_iff.1 hj).1
      simp [hl] at hc'
      subst hc'
      cases hr with | nl p => exact .ow0 id 0 p false s [] (by rw [upd_same]) (.inl ⟨by rw [upd_same], rfl⟩)
    · simp only [e, if_false] at hc'
      rw [hc] at hc'; injection hc' with hc'; subst hc'
      exact hr
  exact h _ a w ⟨sm.defers, sm.size, m2.ext, m2.xold, m2.fresh, m2.inj, fun t => g2.R (g1.R (sm.env t)), m2.obj, m2.pin⟩
end
end Go.Eng

/-
  The engine, part Z: two results that are values. No condition.
-/
namespace Go.Eng
open Go.RowKit
section
variable {P : Program}
/-- Two results, both of them values. -/
theorem Ok.twod {f : FuncId} {fn : Func} {c : Code} {args : List DV} {x y : DV} {fresh : Bool} {n t u : Nat} (hf : P.funcs[f]? = some fn) (hname : (fn.name == "runtime.NumGoroutine") = false) (hb : fn.body = some c) (hn : fn.ntmps = n) (hargs : args.length ≤ n) (hres : fn.results = #[.tmp t, .tmp u])
    (h : ∀ w0 X, w0.pins = [] → LWp P n w0 X c (retQ2 t u fresh (.d x) y) (argsEnv args) (mkObs [])) : Ok P f args ⟨.tup [.d x, .d y], fresh⟩ := by
  refine Ok.of_body hf hname hb hn hargs fun w0 X hpn => (h w0 X hpn).mono fun x env H ⟨h1, h2, h3⟩ => ⟨h1, fun β a w s => ⟨_, results_tmp2 hres _ _ _, ?_⟩⟩
  obtain ⟨B, hB⟩ := ret_one hpn s (s.env t) h2
  obtain ⟨B', hB'⟩ := ret_one hpn s (s.env u) h3
  refine ⟨[a.tmps.getD t undef, a.tmps.getD u undef], fun _ => none, rfl, rfl, (by intro i j b hi hj; simp at hi), fun i r v hr hv => ?_⟩
  match i, hr, hv with
  | 0, hr, hv =>
    injection hr with hr; injection hv with hv
    subst hr; subst hv
    simp only [RVok] at hB ⊢
    exact RD.anti (fun k hk => .inl (by rcases hk with hk | ⟨j, hj⟩; exact hk; cases hj)) hB
  | 1, hr, hv =>
    injection hr with hr; injection hv with hv
    subst hr; subst hv
    simp only [RVok] at hB' ⊢
    exact RD.anti (fun k hk => .inl (by rcases hk with hk | ⟨j, hj⟩; exact hk; cases hj)) hB'
end
end Go.Eng

/-
  Functions of the library at this translation: their bodies are those of the shelf, but for numbers and names. Printed by a program (lay.py). No condition.
-/
namespace Go.Proofs
open Go.Shelf
def Tryz.sortNm_ren : Go.Shelf.Ren := ⟨fun | 6 => 79 | 15 => 133 | 14 => 132 | 28 => 180 | 29 => 181 | 20 => 172 | 21 => 173 | 22 => 174 | 23 => 175 | 24 => 176 | 25 => 177 | 26 => 178 | 27 => 179 | 46 => 193 | 47 => 194 | 48 => 195 | 49 => 196 | 50 => 197 | 57 => 208 | n => n, fun | 22 => 33 | 24 => 42 | 25 => 116 | 3 => 3 | 39 => 55 | 0 => 0 | 53 => 192 | 55 => 179 | 4 => 4 | 46 => 185 | 45 => 184 | 50 => 189 | 5 => 5 | 9 => 9 | 66 => 201 | 70 => 205 | 76 => 214 | 77 => 215 | n => n, fun | n => n⟩
theorem Tryz.sortNm : Go.Proofs.SlLaysF0.n6 Tryz.prog Tryz.sortNm_ren := {
  mixed := by kernel_rfl,
  f6 := ⟨Tryz.f79.name, by decide, Tryz.func79.trans (congrArg some (by kernel_rfl))⟩,
  f14 := ⟨Tryz.f132.name, by decide, Tryz.func132.trans (congrArg some (by kernel_rfl))⟩,
  f15 := Tryz.func133.trans (congrArg some (by kernel_rfl)),
  f20 := ⟨Tryz.f172.name, by decide, Tryz.func172.trans (congrArg some (by kernel_rfl))⟩,
  f21 := ⟨Tryz.f173.name, by decide, Tryz.func173.trans (congrArg some (by kernel_rfl))⟩,
  f22 := ⟨Tryz.f174.name, by decide, Tryz.func174.trans (congrArg some (by kernel_rfl))⟩,
  f23 := ⟨Tryz.f175.name, by decide, Tryz.func175.trans (congrArg some (by kernel_rfl))⟩,
  f24 := ⟨Tryz.f176.name, by decide, Tryz.func176.trans (congrArg some (by kernel_rfl))⟩,
  f25 := ⟨Tryz.f177.name, by decide, Tryz.func177.trans (congrArg some (by kernel_rfl))⟩,
  f26 := ⟨Tryz.f178.name, by decide, Tryz.func178.trans (congrArg some (by kernel_rfl))⟩,
  f27 := ⟨Tryz.f179.name, by decide, Tryz.func179.trans (congrArg some (by kernel_rfl))⟩,
  f28 := Tryz.func180.trans (congrArg some (by kernel_rfl)),
  f29 := Tryz.func181.trans (congrArg some (by kernel_rfl)),
  f46 := ⟨Tryz.f193.name, by decide, Tryz.func193.trans (congrArg some (by kernel_rfl))⟩,
  f47 := Tryz.func194.trans (congrArg some (by kernel_rfl)),
  f48 := Tryz.func195.trans (congrArg some (by kernel_rfl)),
  f49 := ⟨Tryz.f196.name, by decide, Tryz.func196.trans (congrArg some (by kernel_rfl))⟩,
  f50 := ⟨Tryz.f197.name, by decide, Tryz.func197.trans (congrArg some (by kernel_rfl))⟩,
  f57 := ⟨Tryz.f208.name, by decide, Tryz.func208.trans (congrArg some (by kernel_rfl))⟩,
  t0 := Tryz.underlying0,
  a0 := Tryz.isAgg0,
  z0 := Tryz.sizeOf0,
  v0 := Tryz.zeroValue0,
  t3 := Tryz.underlying3,
  a3 := Tryz.isAgg3,
  z3 := Tryz.sizeOf3,
  v3 := Tryz.zeroValue3,
  t4 := Tryz.underlying4,
  a4 := Tryz.isAgg4,
  z4 := Tryz.sizeOf4,
  v4 := Tryz.zeroValue4,
  t5 := Tryz.underlying5,
  a5 := Tryz.isAgg5,
  z5 := Tryz.sizeOf5,
  v5 := Tryz.zeroValue5,
  t9 := Tryz.underlying9,
  a9 := Tryz.isAgg9,
  z9 := Tryz.sizeOf9,
  v9 := Tryz.zeroValue9,
  t22 := Tryz.underlying33,
  a22 := Tryz.isAgg33,
  z22 := Tryz.sizeOf33,
  v22 := Tryz.zeroValue33,
  t25 := Tryz.underlying116,
  a25 := Tryz.isAgg116,
  z25 := Tryz.sizeOf116,
  v25 := Tryz.zeroValue116,
  t39 := Tryz.underlying55,
  a39 := Tryz.isAgg55,
  z39 := Tryz.sizeOf55,
  v39 := Tryz.zeroValue55,
  t45 := Tryz.underlying184,
  a45 := Tryz.isAgg184,
  z45 := Tryz.sizeOf184,
  v45 := Tryz.zeroValue184,
  t46 := Tryz.underlying185,
  a46 := Tryz.isAgg185,
  z46 := Tryz.sizeOf185,
  v46 := Tryz.zeroValue185,
  t50 := Tryz.underlying189,
  a50 := Tryz.isAgg189,
  z50 := Tryz.sizeOf189,
  v50 := Tryz.zeroValue189,
  t53 := Tryz.underlying192,
  a53 := Tryz.isAgg192,
  z53 := Tryz.sizeOf192,
  v53 := Tryz.zeroValue192,
  t55 := Tryz.underlying179,
  a55 := Tryz.isAgg179,
  z55 := Tryz.sizeOf179,
  v55 := Tryz.zeroValue179,
  t66 := Tryz.underlying201,
  a66 := Tryz.isAgg201,
  z66 := Tryz.sizeOf201,
  v66 := Tryz.zeroValue201,
  t70 := Tryz.underlying205,
  a70 := Tryz.isAgg205,
  z70 := Tryz.sizeOf205,
  v70 := Tryz.zeroValue205,
  t76 := Tryz.underlying214,
  a76 := Tryz.isAgg214,
  z76 := Tryz.sizeOf214,
  v76 := Tryz.zeroValue214,
  t77 := Tryz.underlying215,
  a77 := Tryz.isAgg215,
  z77 := Tryz.sizeOf215,
  v77 := Tryz.zeroValue215 }
end Go.Proofs

/-
  Functions of the library at this translation: their bodies are those of the shelf, but for numbers and names. Printed by a program (lay.py). No condition.
-/
namespace Go.Proofs
open Go.Shelf
def Tryz.sortStr_ren : Go.Shelf.Ren := ⟨fun | 6 => 141 | 8 => 133 | 9 => 184 | 19 => 180 | 20 => 181 | 21 => 198 | 22 => 199 | 23 => 200 | 24 => 201 | 25 => 202 | 26 => 203 | 27 => 204 | 28 => 205 | 29 => 206 | 36 => 209 | 31 => 194 | 32 => 195 | 37 => 210 | 38 => 211 | 39 => 212 | 41 => 214 | n => n, fun | 27 => 59 | 29 => 9 | 3 => 3 | 32 => 55 | 26 => 59 | 0 => 0 | 44 => 192 | 46 => 179 | 4 => 4 | 36 => 185 | 35 => 184 | 41 => 189 | 5 => 5 | 9 => 9 | 53 => 201 | 57 => 205 | 63 => 214 | 64 => 215 | n => n, fun | n => n⟩
theorem Tryz.sortStr : Go.Proofs.SlLaysM.n6 Tryz.prog Tryz.sortStr_ren := {
  mixed := by kernel_rfl,
  f6 := ⟨Tryz.f141.name, by decide, Tryz.func141.trans (congrArg some (by kernel_rfl))⟩,
  f8 := Tryz.func133.trans (congrArg some (by kernel_rfl)),
  f9 := ⟨Tryz.f184.name, by decide, Tryz.func184.trans (congrArg some (by kernel_rfl))⟩,
  f19 := Tryz.func180.trans (congrArg some (by kernel_rfl)),
  f20 := Tryz.func181.trans (congrArg some (by kernel_rfl)),
  f21 := ⟨Tryz.f198.name, by decide, Tryz.func198.trans (congrArg some (by kernel_rfl))⟩,
  f22 := ⟨Tryz.f199.name, by decide, Tryz.func199.trans (congrArg some (by kernel_rfl))⟩,
  f23 := ⟨Tryz.f200.name, by decide, Tryz.func200.trans (congrArg some (by kernel_rfl))⟩,
  f24 := ⟨Tryz.f201.name, by decide, Tryz.func201.trans (congrArg some (by kernel_rfl))⟩,
  f25 := ⟨Tryz.f202.name, by decide, Tryz.func202.trans (congrArg some (by kernel_rfl))⟩,
  f26 := ⟨Tryz.f203.name, by decide, Tryz.func203.trans (congrArg some (by kernel_rfl))⟩,
  f27 := ⟨Tryz.f204.name, by decide, Tryz.func204.trans (congrArg some (by kernel_rfl))⟩,
  f28 := ⟨Tryz.f205.name, by decide, Tryz.func205.trans (congrArg some (by kernel_rfl))⟩,
  f29 := ⟨Tryz.f206.name, by decide, Tryz.func206.trans (congrArg some (by kernel_rfl))⟩,
  f31 := Tryz.func194.trans (congrArg some (by kernel_rfl)),
  f32 := Tryz.func195.trans (congrArg some (by kernel_rfl)),
  f36 := ⟨Tryz.f209.name, by decide, Tryz.func209.trans (congrArg some (by kernel_rfl))⟩,
  f37 := ⟨Tryz.f210.name, by decide, Tryz.func210.trans (congrArg some (by kernel_rfl))⟩,
  f38 := ⟨Tryz.f211.name, by decide, Tryz.func211.trans (congrArg some (by kernel_rfl))⟩,
  f39 := ⟨Tryz.f212.name, by decide, Tryz.func212.trans (congrArg some (by kernel_rfl))⟩,
  f41 := ⟨Tryz.f214.name, by decide, Tryz.func214.trans (congrArg some (by kernel_rfl))⟩,
  t0 := Tryz.underlying0,
  a0 := Tryz.isAgg0,
  z0 := Tryz.sizeOf0,
  v0 := Tryz.zeroValue0,
  t3 := Tryz.underlying3,
  a3 := Tryz.isAgg3,
  z3 := Tryz.sizeOf3,
  v3 := Tryz.zeroValue3,
  t4 := Tryz.underlying4,
  a4 := Tryz.isAgg4,
  z4 := Tryz.sizeOf4,
  v4 := Tryz.zeroValue4,
  t5 := Tryz.underlying5,
  a5 := Tryz.isAgg5,
  z5 := Tryz.sizeOf5,
  v5 := Tryz.zeroValue5,
  t9 := Tryz.underlying9,
  a9 := Tryz.isAgg9,
  z9 := Tryz.sizeOf9,
  v9 := Tryz.zeroValue9,
  t26 := Tryz.underlying59,
  a26 := Tryz.isAgg59,
  z26 := Tryz.sizeOf59,
  v26 := Tryz.zeroValue59,
  t27 := Tryz.underlying59,
  a27 := Tryz.isAgg59,
  z27 := Tryz.sizeOf59,
  v27 := Tryz.zeroValue59,
  t29 := Tryz.underlying9,
  a29 := Tryz.isAgg9,
  z29 := Tryz.sizeOf9,
  v29 := Tryz.zeroValue9,
  t32 := Tryz.underlying55,
  a32 := Tryz.isAgg55,
  z32 := Tryz.sizeOf55,
  v32 := Tryz.zeroValue55,
  t35 := Tryz.underlying184,
  a35 := Tryz.isAgg184,
  z35 := Tryz.sizeOf184,
  v35 := Tryz.zeroValue184,
  t36 := Tryz.underlying185,
  a36 := Tryz.isAgg185,
  z36 := Tryz.sizeOf185,
  v36 := Tryz.zeroValue185,
  t41 := Tryz.underlying189,
  a41 := Tryz.isAgg189,
  z41 := Tryz.sizeOf189,
  v41 := Tryz.zeroValue189,
  t44 := Tryz.underlying192,
  a44 := Tryz.isAgg192,
  z44 := Tryz.sizeOf192,
  v44 := Tryz.zeroValue192,
  t46 := Tryz.underlying179,
  a46 := Tryz.isAgg179,
  z46 := Tryz.sizeOf179,
  v46 := Tryz.zeroValue179,
  t53 := Tryz.underlying201,
  a53 := Tryz.isAgg201,
  z53 := Tryz.sizeOf201,
  v53 := Tryz.zeroValue201,
  t57 := Tryz.underlying205,
  a57 := Tryz.isAgg205,
  z57 := Tryz.sizeOf205,
  v57 := Tryz.zeroValue205,
  t63 := Tryz.underlying214,
  a63 := Tryz.isAgg214,
  z63 := Tryz.sizeOf214,
  v63 := Tryz.zeroValue214,
  t64 := Tryz.underlying215,
  a64 := Tryz.isAgg215,
  z64 := Tryz.sizeOf215,
  v64 := Tryz.zeroValue215 }
end Go.Proofs

/-
  Chapter 22, plain: names, definitions, edits as plain data; how they are written as cells. No condition.
-/
namespace Go.Eng

abbrev Str := List UInt8
structure Nm where
  who : Int
  seq : Int
  deriving DecidableEq, Inhabited
structure Df where
  name : Str
  text : Str
  deriving DecidableEq, Inhabited
structure Ed where
  name : Nm
  needs : List Nm
  puts : List Df
  drops : List Str
  deriving DecidableEq, Inhabited

abbrev I64 (n : Int) : DV := .int .i64 n
def Nm.d (n : Nm) : DV := .agg [.int .i64 n.who, .int .i64 n.seq]
def Df.d (d : Df) : DV := .agg [.str d.name, .str d.text]
def Nm.enc (n : Nm) : List Value := [.int .i64 n.who, .int .i64 n.seq]
def nmsD (l : List Nm) : DV := .sl (l.map Nm.d)
def dfsD (l : List Df) : DV := .sl (l.map Df.d)
def strsD (l : List Str) : DV := .sl (l.map .str)
def Ed.d (e : Ed) : DV := .agg [.int .i64 e.name.who, .int .i64 e.name.seq, .sl (e.needs.map Nm.d), .sl (e.puts.map Df.d), .sl (e.drops.map .str)]
def edsD (l : List Ed) : DV := .sl (l.map Ed.d)

theorem getD_lt {α β : Type} {f : α → β} {l : List α} {i : Nat} (h : i < l.length) (d : β) : (l.map f).getD i d = f l[i] := by
  simp [List.getD_eq_getElem?_getD, h]
theorem mem_take_succ {α : Type} {l : List α} {i : Nat} (h : i < l.length) {x : α} : x ∈ l.take (i + 1) ↔ x ∈ l.take i ∨ x = l[i] := by
  have : l.take (i + 1) = l.take i ++ [l[i]] := by simp
  rw [this, List.mem_append, List.mem_singleton]
theorem take_map_len {α β : Type} {f : α → β} {acc : List α} : List.take acc.length (List.map f acc) = List.map f acc := List.take_of_length_le (by simp)
theorem take_map_app {α β : Type} {f : α → β} {l : List α} {t : List β} : List.take l.length (List.map f l ++ t) = List.map f l := by rw [List.take_append_of_le_length (by simp), List.take_of_length_le (by simp)]
theorem mem_part {α : Type} {k n : Nat} {l : List α} {x : α} (h : x ∈ (l.drop k).take n) : x ∈ l := List.mem_of_mem_drop (List.mem_of_mem_take h)
theorem nm_mem {l : List Nm} {y : DV} (h : y ∈ l.map Nm.d) : (cellsD y).length = 2 ∧ ∀ c ∈ cellsD y, memless c = true := by
  obtain ⟨a, _, rfl⟩ := List.mem_map.1 h
  exact ⟨rfl, by simp [Nm.d, cellsD, memless]⟩
theorem df_mem {l : List Df} {y : DV} (h : y ∈ l.map Df.d) : (cellsD y).length = 2 ∧ ∀ c ∈ cellsD y, memless c = true := by
  obtain ⟨a, _, rfl⟩ := List.mem_map.1 h
  exact ⟨rfl, by simp [Df.d, cellsD, memless]⟩
theorem str_mem {l : List Str} {y : DV} (h : y ∈ l.map DV.str) : (cellsD y).length = 1 ∧ ∀ c ∈ cellsD y, memless c = true := by
  obtain ⟨a, _, rfl⟩ := List.mem_map.1 h
  exact ⟨rfl, by simp [cellsD, memless]⟩
theorem ed_mem {l : List Ed} {y : DV} (h : y ∈ l.map Ed.d) : (cellsD y).length = 5 := by
  obtain ⟨a, _, rfl⟩ := List.mem_map.1 h
  rfl
section
variable {l : List Nm} {m : List Df} {r : List Str} {e : List Ed} {k n : Nat}
theorem nm_t : (∀ y ∈ List.take k (List.map Nm.d l), (cellsD y).length = 2) ↔ True := iff_true_intro fun _ h => (nm_mem (List.mem_of_mem_take h)).1
theorem nm_d : (∀ y ∈ List.drop k (List.map Nm.d l), (cellsD y).length = 2) ↔ True := iff_true_intro fun _ h => (nm_mem (List.mem_of_mem_drop h)).1
theorem nm_td : (∀ y ∈ List.take n (List.drop k (List.map Nm.d l)), (cellsD y).length = 2) ↔ True := iff_true_intro fun _ h => (nm_mem (mem_part h)).1
theorem df_t : (∀ y ∈ List.take k (List.map Df.d m), (cellsD y).length = 2) ↔ True := iff_true_intro fun _ h => (df_mem (List.mem_of_mem_take h)).1
theorem df_d : (∀ y ∈ List.drop k (List.map Df.d m), (cellsD y).length = 2) ↔ True := iff_true_intro fun _ h => (df_mem (List.mem_of_mem_drop h)).1
theorem df_td : (∀ y ∈ List.take n (List.drop k (List.map Df.d m)), (cellsD y).length = 2) ↔ True := iff_true_intro fun _ h => (df_mem (mem_part h)).1
theorem str_t : (∀ y ∈ List.take k (List.map DV.str r), (cellsD y).length = 1) ↔ True := iff_true_intro fun _ h => (str_mem (List.mem_of_mem_take h)).1
theorem str_d : (∀ y ∈ List.drop k (List.map DV.str r), (cellsD y).length = 1) ↔ True := iff_true_intro fun _ h => (str_mem (List.mem_of_mem_drop h)).1
theorem str_td : (∀ y ∈ List.take n (List.drop k (List.map DV.str r)), (cellsD y).length = 1) ↔ True := iff_true_intro fun _ h => (str_mem (mem_part h)).1
theorem ed_t : (∀ y ∈ List.take k (List.map Ed.d e), (cellsD y).length = 5) ↔ True := iff_true_intro fun _ h => ed_mem (List.mem_of_mem_take h)
theorem ed_d : (∀ y ∈ List.drop k (List.map Ed.d e), (cellsD y).length = 5) ↔ True := iff_true_intro fun _ h => ed_mem (List.mem_of_mem_drop h)
theorem ed_td : (∀ y ∈ List.take n (List.drop k (List.map Ed.d e)), (cellsD y).length = 5) ↔ True := iff_true_intro fun _ h => ed_mem (mem_part h)
end

/-- Nothing was found ahead of i. -/
def Pre {α : Type} (p : α → Bool) (l : List α) (i : Nat) : Prop := ∀ j (h : j < l.length), j < i → p l[j] = false
theorem Pre.zero {α : Type} {p : α → Bool} {l : List α} : Pre p l 0 := fun _ _ h => absurd h (Nat.not_lt_zero _)
theorem Pre.succ {α : Type} {p : α → Bool} {l : List α} {i : Nat} (h : Pre p l i) (hi : i < l.length) (hp : p l[i] = false) : Pre p l (i + 1) := fun j hj hji => by
  by_cases e : j = i
  · subst e; exact hp
  · exact h j hj (by omega)
theorem Pre.found {α : Type} {p : α → Bool} {l : List α} {i : Nat} (h : Pre p l i) (hi : i < l.length) (hp : p l[i] = true) : l.findIdx? p = some i := by
  rw [List.findIdx?_eq_some_iff_getElem]
  exact ⟨hi, hp, fun j hj => by rw [h j (by omega) hj]; simp⟩
theorem Pre.none {α : Type} {p : α → Bool} {l : List α} {i : Nat} (h : Pre p l i) (hi : l.length ≤ i) : l.findIdx? p = none := by
  rw [List.findIdx?_eq_none_iff]
  intro x hx
  obtain ⟨j, hj, rfl⟩ := List.getElem_of_mem hx
  exact h j hj (by omega)
theorem Pre.any {α : Type} {p : α → Bool} {l : List α} {i : Nat} (h : Pre p l i) (hi : l.length ≤ i) : l.any p = false := by
  rw [List.any_eq_false]
  intro x hx
  obtain ⟨j, hj, rfl⟩ := List.getElem_of_mem hx
  rw [h j hj (by omega)]; simp
theorem any_at {α : Type} {p : α → Bool} {l : List α} {i : Nat} (hi : i < l.length) (hp : p l[i] = true) : l.any p = true := List.any_eq_true.2 ⟨_, List.getElem_mem hi, hp⟩
/-- Two lists are the same as far as i. -/
theorem take_eq_succ {α : Type} {a b : List α} {i : Nat} (h : a.take i = b.take i) (ha : i < a.length) (hb : i < b.length) (e : a[i] = b[i]) : a.take (i + 1) = b.take (i + 1) := by
  have h1 : a.take (i + 1) = a.take i ++ [a[i]] := by simp
  have h2 : b.take (i + 1) = b.take i ++ [b[i]] := by simp
  rw [h1, h2, h, e]
theorem take_succ_map {α β : Type} {f : α → β} {a : List α} {i : Nat} (ha : i < a.length) : (a.take (i + 1)).map f = (a.take i).map f ++ [f a[i]] := by
  have h1 : a.take (i + 1) = a.take i ++ [a[i]] := by simp
  rw [h1, List.map_append]; rfl

theorem map_take_succ {α β : Type} {f : α → β} {a : List α} {i : Nat} (ha : i < a.length) : (a.map f).take (i + 1) = (a.map f).take i ++ [f a[i]] := by
  rw [← List.map_take, ← List.map_take, take_succ_map ha]
theorem filter_take_succ {α : Type} {p : α → Bool} {a : List α} {i : Nat} (ha : i < a.length) : (a.take (i + 1)).filter p = (a.take i).filter p ++ (if p a[i] then [a[i]] else []) := by
  have h1 : a.take (i + 1) = a.take i ++ [a[i]] := by simp
  rw [h1, List.filter_append]
  congr 1
  simp [List.filter_cons]

/-! ### the answers of the reference, small -/
def around (n m : Int) : Int := (if n < 0 then -(n + 1) else n).tmod m
def atL (l : List Int) (i m : Int) : Int := if i < 0 ∨ l.length ≤ i then 0 else around (l.getD i.toNat 0) m
def Nm.less (a b : Nm) : Bool := decide (a.who < b.who) || decide (a.who = b.who) && decide (a.seq < b.seq)
def Nm.isName (n : Nm) : Bool := decide (0 ≤ n.who) && decide (n.who ≤ 3) && decide (0 ≤ n.seq) && decide (n.seq ≤ 63)
def find? (l : List Ed) (n : Nm) : Option Nat := l.findIdx? fun e => decide (e.name = n)
def findI (l : List Ed) (n : Nm) : Int := match find? l n with | some i => i | none => -1
def needsOf (l : List Ed) (n : Nm) : List Nm := match find? l n with | some i => (l.getD i default).needs | none => []
def touches (e : Ed) : List Str := e.puts.map Df.name ++ e.drops
def dropD (l : List Df) (s : Str) : List Df := l.filter fun d => decide (d.name ≠ s)
theorem dropD_skip {l : List Df} {s : Str} {i : Nat} (h : i < l.length) (e : l[i].name = s) : dropD (l.take (i + 1)) s = dropD (l.take i) s := by
  unfold dropD; rw [filter_take_succ h]; simp [e]
theorem dropD_keep {l : List Df} {s : Str} {i : Nat} (h : i < l.length) (e : l[i].name ≠ s) : dropD (l.take (i + 1)) s = dropD (l.take i) s ++ [l[i]] := by
  unfold dropD; rw [filter_take_succ h]; simp [e]
/-- The place of a new one in a list, looked for from the end. -/
def rpos {α : Type} (p : α → Bool) (out : List α) : Nat → Nat
  | 0 => 0
  | k + 1 => match out[k]? with
    | some y => if p y then rpos p out k else k + 1
    | none => k + 1
def insAt {α : Type} (k : Nat) (x : α) (out : List α) : List α := out.take k ++ x :: out.drop k
def putD (l : List Df) (d : Df) : List Df := insAt (rpos (fun y => Op.bytesLess d.name y.name) (dropD l d.name) (dropD l d.name).length) d (dropD l d.name)
def sortStep (out : List Nm) (x : Nm) : List Nm := if x ∈ out then out else insAt (rpos (fun y => x.less y) out out.length) x out
theorem rpos_stop {α : Type} {p : α → Bool} {out : List α} {k : Nat} (h : ∀ i, k = i + 1 → ∀ (hi : i < out.length), p out[i] = false) : rpos p out k = k := by
  cases k with
  | zero => rfl
  | succ k =>
    simp only [rpos]
    cases q : out[k]? with
    | none => rfl
    | some y =>
      obtain ⟨hk, rfl⟩ := List.getElem?_eq_some_iff.1 q
      simp [h k rfl hk]
theorem rpos_go {α : Type} {p : α → Bool} {out : List α} {k : Nat} (hk : k < out.length) (h : p out[k] = true) : rpos p out (k + 1) = rpos p out k := by
  simp only [rpos, List.getElem?_eq_getElem hk, h, if_true]
theorem rpos_le {α : Type} {p : α → Bool} {out : List α} : ∀ k, rpos p out k ≤ k
  | 0 => Nat.le_refl _
  | k + 1 => by
    simp only [rpos]
    cases out[k]? with
    | none => exact Nat.le_refl _
    | some y => simp only; split; exact Nat.le_succ_of_le (rpos_le k); exact Nat.le_refl _
theorem row_ins {α β : Type} {f : α → β} {acc : List α} {k : Nat} {x : α} {y : β} (h : k ≤ acc.length) (hy : f x = y) : List.take (k + 1) (List.take k (List.take k (List.map f acc)) ++ [y]) ++ List.take (acc.length - k) (List.drop k (List.map f acc)) = List.map f (insAt k x acc) := by
  subst hy
  have h1 : List.take (k + 1) (List.take k (List.take k (List.map f acc)) ++ [f x]) = List.take k (List.map f acc) ++ [f x] := by
    rw [List.take_take, Nat.min_self]
    exact List.take_of_length_le (by simp; omega)
  have h2 : List.take (acc.length - k) (List.drop k (List.map f acc)) = List.drop k (List.map f acc) := List.take_of_length_le (by simp)
  rw [h1, h2]
  simp [insAt]
theorem row_ins_nm {acc : List Nm} {k : Nat} {x : Nm} (h : k ≤ acc.length) : List.take (k + 1) (List.take k (List.take k (List.map Nm.d acc)) ++ [.agg [.int .i64 x.who, .int .i64 x.seq]]) ++ List.take (acc.length - k) (List.drop k (List.map Nm.d acc)) = List.map Nm.d (insAt k x acc) := row_ins h rfl
theorem row_ins_df {acc : List Df} {k : Nat} {x : Df} (h : k ≤ acc.length) : List.take (k + 1) (List.take k (List.take k (List.map Df.d acc)) ++ [.agg [.str x.name, .str x.text]]) ++ List.take (acc.length - k) (List.drop k (List.map Df.d acc)) = List.map Df.d (insAt k x acc) := row_ins h rfl
theorem insAt_length {α : Type} {k : Nat} {x : α} {out : List α} : (insAt k x out).length = out.length + 1 := by
  unfold insAt; simp; omega
def sortN (l : List Nm) : List Nm := l.foldl sortStep []
theorem sortN_succ {l : List Nm} {i : Nat} (h : i < l.length) : sortN (l.take (i + 1)) = sortStep (sortN (l.take i)) l[i] := by
  have h1 : l.take (i + 1) = l.take i ++ [l[i]] := by simp
  unfold sortN
  rw [h1, List.foldl_append]; rfl
def bit16 (bits i : Int) : Bool := decide (((around bits 65536).fdiv (2 ^ (i.tmod 16).toNat)).tmod 2 = 1)
def someN (l : List Ed) (bits : Int) : List Nm := (l.zipIdx.filter fun p => bit16 bits p.2).map fun p => p.1.name
def textOf (l : List Df) (s : Str) : Str := match l.findIdx? (fun d => decide (d.name = s)) with | some i => (l.getD i default).text | none => []
def nameS (n : Int) : Str := ([[97], [98], [99], [100], [97, 97]] : List Str).getD (around n 5).toNat []
def digitS (n : Int) : Str := [UInt8.ofNat (48 + around n 10).toNat]
def defD (n v : Int) : Df := ⟨nameS n, [118, 97, 114, 32] ++ nameS n ++ [32, 61, 32] ++ digitS v ++ [59]⟩
theorem around_lt (n m : Int) (hm : 0 < m) : 0 ≤ around n m ∧ around n m < m := by
  unfold around
  split
  · exact ⟨Int.tmod_nonneg _ (by omega), Int.tmod_lt_of_pos _ hm⟩
  · exact ⟨Int.tmod_nonneg _ (by omega), Int.tmod_lt_of_pos _ hm⟩
end Go.Eng

/-
  Chapter 22, plain: what needs lead to. No condition.
-/
namespace Go.Eng

theorem filter_lt {α : Type} {p q : α → Bool} {m : α} : ∀ {U : List α}, (∀ x, q x = true → p x = true) → m ∈ U → p m = true → q m = false → (U.filter q).length < (U.filter p).length
  | [], _, h, _, _ => by cases h
  | x :: U, hpq, h, hp, hq => by
    have hle : ∀ V : List α, (V.filter q).length ≤ (V.filter p).length := by
      intro V
      induction V with
      | nil => exact Nat.le_refl _
      | cons y V ih =>
        simp only [List.filter_cons]
        cases e1 : q y with
        | true => rw [hpq y e1]; simp; exact ih
        | false => cases p y <;> simp <;> omega
    simp only [List.filter_cons]
    by_cases e : x = m
    · subst e
      rw [hp, hq]
      simp
      have := hle U; omega
    · have hm : m ∈ U := by rcases List.mem_cons.1 h with h | h; exact absurd h.symm e; exact h
      have := filter_lt hpq hm hp hq
      cases e1 : q x with
      | true => rw [hpq x e1]; simp; exact this
      | false => cases p x <;> simp <;> omega
theorem filter_le {α : Type} {p q : α → Bool} : ∀ {U : List α}, (∀ x, q x = true → p x = true) → (U.filter q).length ≤ (U.filter p).length
  | [], _ => Nat.le_refl _
  | y :: V, hpq => by
    have ih := filter_le (U := V) hpq
    simp only [List.filter_cons]
    cases e1 : q y with
    | true => rw [hpq y e1]; simp; exact ih
    | false => cases p y <;> simp <;> omega

/-- All needs of a list of edits. -/
def allNeeds (l : List Ed) : List Nm := l.flatMap Ed.needs
def mu (l : List Ed) (M : List Nm) : Nat := ((allNeeds l).filter fun x => decide (x ∉ M)).length
theorem needs_all {l : List Ed} {n m : Nm} (h : m ∈ needsOf l n) : m ∈ allNeeds l := by
  unfold needsOf at h
  split at h
  · rename_i i hi
    unfold find? at hi
    obtain ⟨hi, _, _⟩ := List.findIdx?_eq_some_iff_getElem.1 hi
    simp [List.getD_eq_getElem?_getD, hi] at h
    exact List.mem_flatMap.2 ⟨_, List.getElem_mem hi, h⟩
  · cases h
theorem mu_lt {l : List Ed} {M : List Nm} {m : Nm} (h : m ∈ allNeeds l) (hm : m ∉ M) : mu l (M ++ [m]) < mu l M :=
  filter_lt (fun x hx => by simp at hx ⊢; exact hx.1) h (by simpa using hm) (by simp)
theorem mu_le {l : List Ed} {M M' : List Nm} (h : ∀ x ∈ M, x ∈ M') : mu l M' ≤ mu l M :=
  filter_le fun x hx => by simp at hx ⊢; exact fun hm => hx (h x hm)

/-- The climb: all names that needs lead to, in the order in which they are found. -/
def climbF (l : List Ed) : Nat → Nm → List Nm → List Nm
  | 0, _, M => M
  | f + 1, n, M => (needsOf l n).foldl (fun M m => if m ∈ M then M else climbF l f m (M ++ [m])) M
def climbS (l : List Ed) (f : Nat) (M : List Nm) (m : Nm) : List Nm := if m ∈ M then M else climbF l f m (M ++ [m])
theorem climbF_succ (l : List Ed) (f : Nat) (n : Nm) (M : List Nm) : climbF l (f + 1) n M = (needsOf l n).foldl (climbS l f) M := rfl

/-- In at least one step. -/
inductive Reach (l : List Ed) : Nm → Nm → Prop
  | one {n m : Nm} (h : m ∈ needsOf l n) : Reach l n m
  | next {n m k : Nm} (h : m ∈ needsOf l n) (r : Reach l m k) : Reach l n k
theorem Reach.snoc {l : List Ed} {n m k : Nm} (r : Reach l n m) (h : k ∈ needsOf l m) : Reach l n k := by
  induction r with
  | one h1 => exact .next h1 (.one h)
  | next h1 _ ih => exact .next h1 (ih h)
theorem Reach.trans {l : List Ed} {n m k : Nm} (r : Reach l n m) (s : Reach l m k) : Reach l n k := by
  induction r with
  | one h1 => exact .next h1 s
  | next h1 _ ih => exact .next h1 (ih s)

theorem climb_spec (l : List Ed) : ∀ (f : Nat) (n : Nm) (M : List Nm), mu l M < f →
    (∀ x ∈ M, x ∈ climbF l f n M) ∧ (∀ x ∈ climbF l f n M, x ∈ M ∨ Reach l n x) ∧ (∀ x ∈ needsOf l n, x ∈ climbF l f n M) ∧ ∀ x ∈ climbF l f n M, x ∉ M → ∀ y ∈ needsOf l x, y ∈ climbF l f n M := by
  intro f
  induction f with
  | zero => intro n M h; omega
  | succ f ih =>
    intro n M hM
    rw [climbF_succ]
    have key : ∀ (L : List Nm), (∀ m ∈ L, m ∈ allNeeds l) → ∀ M, mu l M < f + 1 →
        (∀ x ∈ M, x ∈ L.foldl (climbS l f) M) ∧ (∀ x ∈ L.foldl (climbS l f) M, x ∈ M ∨ ∃ m ∈ L, x = m ∨ Reach l m x) ∧ (∀ x ∈ L, x ∈ L.foldl (climbS l f) M) ∧ ∀ x ∈ L.foldl (climbS l f) M, x ∉ M → ∀ y ∈ needsOf l x, y ∈ L.foldl (climbS l f) M := by
      intro L
      induction L with
      | nil => intro _ M _; exact ⟨fun x hx => hx, fun x hx => .inl hx, fun x hx => (by cases hx), fun x hx hn => absurd hx hn⟩
      | cons m L ihL =>
        intro hL M hM
        have hm : m ∈ allNeeds l := hL m (by simp)
        have hL' : ∀ x ∈ L, x ∈ allNeeds l := fun x hx => hL x (by simp [hx])
        simp only [List.foldl_cons]
        unfold climbS
        by_cases hin : m ∈ M
        · rw [if_pos hin]
          obtain ⟨h1, h2, h3, h4⟩ := ihL hL' M hM
          refine ⟨h1, fun x hx => (h2 x hx).imp id fun ⟨k, hk, hr⟩ => ⟨k, by simp [hk], hr⟩, fun x hx => ?_, h4⟩
          rcases List.mem_cons.1 hx with rfl | hx
          · exact h1 _ hin
          · exact h3 x hx
        · rw [if_neg hin]
          have hlt := mu_lt hm hin
          obtain ⟨g1, g2, g3, g4⟩ := ih m (M ++ [m]) (by omega)
          have hMM : ∀ x ∈ M, x ∈ climbF l f m (M ++ [m]) := fun x hx => g1 x (by simp [hx])
          obtain ⟨h1, h2, h3, h4⟩ := ihL hL' (climbF l f m (M ++ [m])) (Nat.lt_of_le_of_lt (mu_le hMM) hM)
          refine ⟨fun x hx => h1 x (hMM x hx), fun x hx => ?_, fun x hx => ?_, fun x hx hxM y hy => ?_⟩
          · rcases h2 x hx with h | ⟨k, hk, hr⟩
            · rcases g2 x h with h | h
              · rcases List.mem_append.1 h with h | h
                · exact .inl h
                · simp at h; exact .inr ⟨m, by simp, .inl h⟩
              · exact .inr ⟨m, by simp, .inr h⟩
            · exact .inr ⟨k, by simp [hk], hr⟩
          · rcases List.mem_cons.1 hx with rfl | hx
            · exact h1 _ (g1 _ (by simp))
            · exact h3 x hx
          · by_cases hx2 : x ∈ climbF l f m (M ++ [m])
            · by_cases hxm : x = m
              · subst hxm; exact h1 y (g3 y hy)
              · exact h1 y (g4 x hx2 (by simp [hxM, hxm]) y hy)
            · exact h4 x hx hx2 y hy
    obtain ⟨h1, h2, h3, h4⟩ := key (needsOf l n) (fun m hm => needs_all hm) M hM
    refine ⟨h1, fun x hx => (h2 x hx).imp id fun ⟨m, hm, hr⟩ => ?_, h3, h4⟩
    rcases hr with rfl | hr
    · exact .one hm
    · exact .next hm hr

theorem climbS_sub {l : List Ed} {f : Nat} {M : List Nm} {m : Nm} (hm : m ∈ allNeeds l) (hM : mu l M < f + 1) : ∀ x ∈ M, x ∈ climbS l f M m := by
  intro x hx
  unfold climbS
  by_cases h : m ∈ M
  · rw [if_pos h]; exact hx
  · rw [if_neg h]
    have := mu_lt hm h
    exact (climb_spec l f m (M ++ [m]) (by omega)).1 x (by simp [hx])
theorem climbS_nodup (l : List Ed) : ∀ (f : Nat) (n : Nm) (M : List Nm), M.Nodup → (climbF l f n M).Nodup := by
  intro f
  induction f with
  | zero => intro n M h; exact h
  | succ f ih =>
    intro n M h
    rw [climbF_succ]
    generalize needsOf l n = L
    induction L generalizing M with
    | nil => exact h
    | cons m L ihL =>
      simp only [List.foldl_cons]
      refine ihL _ ?_
      unfold climbS
      split
      · exact h
      · rename_i hn
        refine ih _ _ (List.nodup_append.2 ⟨h, by simp, ?_⟩)
        intro a ha b hb
        simp at hb; subst hb
        intro e; subst e; exact hn ha

/-- What is above a name. -/
def aboveL (l : List Ed) (n : Nm) : List Nm := climbF l (mu l [] + 1) n []
theorem mem_aboveL {l : List Ed} {n x : Nm} : x ∈ aboveL l n ↔ Reach l n x := by
  obtain ⟨_, h2, h3, h4⟩ := climb_spec l (mu l [] + 1) n [] (Nat.lt_succ_self _)
  constructor
  · intro h
    rcases h2 x h with h | h
    · cases h
    · exact h
  · intro h
    have key : ∀ a b, Reach l a b → (∀ y ∈ needsOf l a, y ∈ aboveL l n) → b ∈ aboveL l n := by
      intro a b hr
      induction hr with
      | one h => intro hc; exact hc _ h
      | next h _ ih => intro hc; exact ih fun y hy => h4 _ (hc _ h) (by simp) y hy
    exact key n x h h3
theorem aboveL_nodup (l : List Ed) (n : Nm) : (aboveL l n).Nodup := climbS_nodup _ _ _ _ (by simp)
end Go.Eng

/-
  Chapter 22, plain: possible edits, valid lists. No condition.
-/
namespace Go.Eng

/-- Each element is less than the next one. -/
def incr {α : Type} (lt : α → α → Bool) : List α → Bool
  | a :: b :: r => lt a b && incr lt (b :: r)
  | _ => true
def IncTo {α : Type} (lt : α → α → Bool) (l : List α) (i : Nat) : Prop := ∀ (j : Nat) (h : j + 1 < l.length), j + 1 < i → lt l[j] l[j + 1] = true
theorem incr_iff {α : Type} {lt : α → α → Bool} : ∀ {l : List α}, incr lt l = true ↔ ∀ (j : Nat) (h : j + 1 < l.length), lt l[j] l[j + 1] = true
  | [] => by simp [incr]
  | [_] => by simp [incr]
  | a :: b :: r => by
    simp only [incr, Bool.and_eq_true]
    rw [incr_iff (l := b :: r)]
    constructor
    · rintro ⟨h1, h2⟩ j hj
      cases j with
      | zero => exact h1
      | succ j => exact h2 j (by simpa using hj)
    · intro h
      exact ⟨h 0 (by simp), fun j hj => h (j + 1) (by simpa using hj)⟩
theorem IncTo.start {α : Type} {lt : α → α → Bool} {l : List α} {i : Nat} (h : i ≤ 1) : IncTo lt l i := fun j _ hji => by omega
theorem IncTo.succ {α : Type} {lt : α → α → Bool} {l : List α} {i : Nat} (h : IncTo lt l (i + 1)) (hi : i + 1 < l.length) (hp : lt l[i] l[i + 1] = true) : IncTo lt l (i + 2) := fun j hj hji => by
  by_cases e : j = i
  · subst e; exact hp
  · exact h j hj (by omega)
theorem IncTo.done {α : Type} {lt : α → α → Bool} {l : List α} {i : Nat} (h : IncTo lt l i) (hi : l.length ≤ i) : incr lt l = true := incr_iff.2 fun j hj => h j hj (by omega)
theorem incr_false {α : Type} {lt : α → α → Bool} {l : List α} {i : Nat} (hi : i + 1 < l.length) (hp : lt l[i] l[i + 1] = false) : incr lt l = false := by
  cases q : incr lt l with
  | false => rfl
  | true => have := incr_iff.1 q i hi; rw [hp] at this; cases this

def bless (a b : Str) : Bool := Op.bytesLess a b
/-- Names of definitions: each one has 1 to 16 bytes, no two are equal. -/
def okNames (l : List Str) : Bool := l.all (fun s => decide (s ≠ []) && decide (s.length ≤ 16)) && decide l.Nodup
def okName (l : List Str) (i : Nat) (h : i < l.length) : Bool := decide (l[i] ≠ []) && decide (l[i].length ≤ 16) && decide (l[i] ∉ l.take i)
theorem okNames_iff {l : List Str} : okNames l = true ↔ ∀ (i : Nat) (h : i < l.length), okName l i h = true := by
  unfold okNames okName
  simp only [Bool.and_eq_true, List.all_eq_true, decide_eq_true_eq]
  constructor
  · rintro ⟨h1, h2⟩ i hi
    refine ⟨h1 _ (List.getElem_mem hi), fun hm => ?_⟩
    obtain ⟨j, hj, e⟩ := List.getElem_of_mem hm
    simp at hj e
    exact List.pairwise_iff_getElem.1 h2 j i (by omega) hi (by omega) e
  · intro h
    refine ⟨fun x hx => ?_, ?_⟩
    · obtain ⟨i, hi, rfl⟩ := List.getElem_of_mem hx
      exact (h i hi).1
    · refine List.pairwise_iff_getElem.2 fun i j hi hj hij e => ?_
      refine (h j hj).2 ?_
      rw [← e]
      exact List.mem_iff_getElem.2 ⟨i, by simp; omega, by simp⟩
def properE (e : Ed) : Bool := e.name.isName && decide ((touches e).length ≤ 24) && incr Nm.less e.needs && incr bless (e.puts.map Df.name) && incr bless e.drops && e.needs.all Nm.isName && okNames (touches e) && e.puts.all (fun d => decide (d.text.length ≤ 1024))

/-- What is wrong with the edit at a place of a list; 0: nothing. -/
def errE (l : List Ed) (i : Nat) (e : Ed) : Int :=
  if properE e = false then 1 else if findI l e.name < i then 7 else if e.needs.any (fun n => decide (findI l n < 0)) = true then 6 else if e.name ∈ aboveL l e.name then 13 else 0
def validFrom (l : List Ed) : List Ed → Nat → Int × Int
  | [], i => (i, 0)
  | e :: r, i => if errE l i e = 0 then validFrom l r (i + 1) else (i, errE l i e)
def validV (l : List Ed) : Int × Int := if 64 < l.length then (0, 4) else validFrom l l 0
theorem validFrom_step {l : List Ed} {i : Nat} (h : i < l.length) (e : errE l i l[i] = 0) : validFrom l (l.drop i) i = validFrom l (l.drop (i + 1)) (i + 1) := by
  rw [List.drop_eq_getElem_cons h]
  simp [validFrom, e]
theorem validFrom_stop {l : List Ed} {i : Nat} (h : i < l.length) (e : errE l i l[i] ≠ 0) : validFrom l (l.drop i) i = ((i : Int), errE l i l[i]) := by
  rw [List.drop_eq_getElem_cons h]
  simp [validFrom, e]
theorem validFrom_end {l : List Ed} {i : Nat} (h : l.length ≤ i) : validFrom l (l.drop i) i = ((i : Int), 0) := by
  rw [List.drop_eq_nil_of_le h]
  rfl
end Go.Eng

/-
  strings.Compare: the contract (the shelf's template, filled for this seat), and how it reads for the engine. No condition.
-/
namespace Go.Proofs

set_option maxHeartbeats 1000000 in
set_option maxRecDepth 100000 in
theorem Tryz.bytealg_CompareString (a b : ByteArray) (w : World) :
    Calls Tryz.prog 167 #[.string a, .string b] w fun e w' => e = .returned (.int .i64 (Lib.compareBytes a.data.toList b.data.toList)) ∧ w' = w := by
  go_enter Tryz.func167, Tryz.ntmps167
  go_wp2
  rw [run_callFunc_extern Tryz.func191 (by kernel_rfl) (by kernel_rfl) (by kernel_rfl) (e := Extern.BytealgCompare.compare) (by kernel_rfl), Lib.run_compareString]
  simp only [Result.andThen]
  rw [Oper.upon_value]
  go_wp2
  go_ret
  exact ⟨rfl, rfl⟩

end Go.Proofs
namespace Go.Eng
open Go.Proofs Go.RowKit
def cmpB (a b : Str) : Int := Lib.compareBytes a b
theorem cmpB_ge : ∀ (a b : Str), decide (0 ≤ cmpB a b) = !Op.bytesLess a b
  | [], [] => rfl
  | [], _ :: _ => rfl
  | _ :: _, [] => rfl
  | a :: xs, b :: ys => by
    have ih := cmpB_ge xs ys
    unfold cmpB at *
    simp only [Lib.compareBytes, Op.bytesLess]
    by_cases h1 : a < b
    · simp [h1]
    · by_cases h2 : b < a
      · have : ¬ a = b := fun e => by subst e; exact h1 h2
        simp [h1, h2, this]
      · have : a = b := by
          have h1' : ¬ a.toNat < b.toNat := h1
          have h2' : ¬ b.toNat < a.toNat := h2
          exact UInt8.toNat_inj.1 (by omega)
        subst this
        simp [h1, ih]
theorem CompareString_ok (a b : Str) : Ok Tryz.prog 167 [.str a, .str b] ⟨.d (I64 (cmpB a b)), true⟩ := by
  refine ⟨⟨_, Tryz.func167, by kernel_rfl, rfl⟩, fun w X vs hX hr => ?_⟩
  match vs, hr.1 with
  | [u, v], _ =>
    have h1 := hr.2 0 _ _ rfl rfl
    have h2 := hr.2 1 _ _ rfl rfl
    cases h1; cases h2
    refine (Tryz.bytealg_CompareString _ _ w).mono ?_
    rintro e w' ⟨rfl, rfl⟩
    exact ⟨_, rfl, Bel.refl _ _, none, .int _ _⟩
end Go.Eng

/-
  maps.Keys over a map whose keys are structs, and slices.AppendSeq of it. No condition.
-/
namespace Go.Eng
open Go.RowKit Go.Maps Go.Sort Go.Shelf Go.Proofs
open Go.ChangeMaps (setBlock)

section
variable {P : Program} {F : Fence} {n : Nat} (w : World) {ops : Array Oper} {rest : List Oper} {o : Oper} {a : Act} {Q : Exit → Act → World → Prop}

/-- Which entries of a map have come. -/
structure Came (es : Array MapEntry) (vs : List MapEntry) (seen : Array Nat) : Prop where
  mem : ∀ e ∈ vs, e ∈ es.toList
  nd : (vs.map (·.born)).Nodup
  seen : seen.toList = vs.map (·.born)

theorem born_nodup {es : Array MapEntry} {clock : Nat} (h : BornOk es clock) : (es.toList.map (·.born)).Nodup := by
  rw [List.Nodup, List.pairwise_map, List.pairwise_iff_getElem]
  intro i j hi hj hij e
  have := h.2 i j _ _ (by simp) (by simp) e
  omega
theorem nodup_of_map {α β : Type} {f : α → β} : ∀ {l : List α}, (l.map f).Nodup → l.Nodup
  | [], _ => by simp
  | a :: l, h => by
    simp only [List.map_cons, List.nodup_cons] at h ⊢
    exact ⟨fun hm => h.1 (List.mem_map.2 ⟨a, hm, rfl⟩), nodup_of_map h.2⟩
theorem Came.perm {es : Array MapEntry} {clock : Nat} {vs : List MapEntry} {seen : Array Nat} (h : Came es vs seen) (hb : BornOk es clock) (hl : (leftOf es seen).size = 0) : vs.Perm es.toList := by
  refine (List.perm_ext_iff_of_nodup (nodup_of_map h.nd) (nodup_of_map (born_nodup hb))).2 fun e => ⟨h.mem e, fun he => ?_⟩
  have hs : e.born ∈ seen := by
    have : leftOf es seen = #[] := Array.eq_empty_of_size_eq_zero hl
    unfold leftOf at this
    rw [Array.filter_eq_empty_iff] at this
    have := this e (by simpa using he)
    simpa using this
  have hs' : e.born ∈ vs.map (·.born) := by rw [← h.seen]; simpa using hs
  obtain ⟨e', he', hee⟩ := List.mem_map.1 hs'
  obtain ⟨i, hi, hie⟩ := List.getElem_of_mem he
  obtain ⟨j, hj, hje⟩ := List.getElem_of_mem (h.mem e' he')
  have := hb.2 j i e' e (by rw [← hje]; simp) (by rw [← hie]; simp) hee
  subst this
  rw [← hie, hje]; exact he'
theorem Came.step {es : Array MapEntry} {vs : List MapEntry} {seen : Array Nat} (h : Came es vs seen) {e : MapEntry} (he : e ∈ (leftOf es seen).toList) : Came es (vs ++ [e]) (seen.push e.born) := by
  unfold leftOf at he
  simp only [Array.toList_filter, List.mem_filter, Bool.not_eq_true'] at he
  refine ⟨fun x hx => ?_, ?_, by simp [h.seen]⟩
  · rcases List.mem_append.1 hx with hx | hx
    · exact h.mem x hx
    · simp at hx; subst hx; exact he.1
  · rw [List.map_append, List.nodup_append]
    refine ⟨h.nd, by simp, fun x hx y hy e' => ?_⟩
    simp at hy; subst hy; subst e'
    rw [← h.seen] at hx
    have := he.2
    simp at this
    exact this (by simpa using hx)
theorem nodup_le : ∀ {l m : List Nat}, l.Nodup → (∀ x ∈ l, x ∈ m) → l.length ≤ m.length
  | [], _, _, _ => Nat.zero_le _
  | a :: l, m, h, hs => by
    simp only [List.nodup_cons] at h
    have ha : a ∈ m := hs a (List.mem_cons_self ..)
    have := nodup_le h.2 (m := m.erase a) (fun x hx => (List.mem_erase_of_ne (show x ≠ a from fun e => by subst e; exact h.1 hx)).2 (hs x (List.mem_cons_of_mem _ hx)))
    rw [List.length_erase_of_mem ha] at this
    have := List.length_pos_of_mem ha
    simp only [List.length_cons]; omega
theorem Came.size {es : Array MapEntry} {clock : Nat} {vs : List MapEntry} {seen : Array Nat} (h : Came es vs seen) (hb : BornOk es clock) : seen.size ≤ es.size := by
  have h1 : seen.size = vs.length := by have := congrArg List.length h.seen; simpa using this
  rw [h1]
  have := nodup_le h.nd (m := es.toList.map (·.born)) (fun x hx => by obtain ⟨e, he, rfl⟩ := List.mem_map.1 hx; exact List.mem_map.2 ⟨e, h.mem e he, rfl⟩)
  simpa using this

theorem setBlock_heap {w : World} {r : Nat} {o o' : Obj} (h : w.heap[r]? = some o) : (setBlock w r o').heap[r]? = some o' ∧ ∀ k, k ≠ r → (setBlock w r o').heap[k]? = w.heap[k]? := by
  have hlt := (Array.getElem?_eq_some_iff.1 h).1
  refine ⟨by simp [setBlock, hlt], fun k hk => ?_⟩
  simp only [setBlock]
  rw [Array.getElem?_setIfInBounds_ne (fun e => hk e.symm)]

theorem wpListIn_range_map (hg : o.guard = none) (m : Operand) (t : TypeId) (hop : o.op = Op.range t m) (k e : TypeId) (ht : P.underlying t = some (.map k e)) {b clock : Nat} {es : Array MapEntry} (hm : a.eval m = .map (some b)) (hb : w.heap[b]? = some (.map es clock))
    (hK : wpListIn F n P ops Q rest (a.put o.dst (.pointer (some ⟨w.heap.size, 0, none⟩))) (w.alloc (.mapIter (some b) clock #[] clock))) : wpListIn F n P ops Q (o :: rest) a w := by
  refine wpListIn_plain hg fun K' hK' => ?_
  have hrun : (Instr.range t (.map (some b))).run P w = .ok (.pointer (some ⟨w.heap.size, 0, none⟩)) (w.alloc (.mapIter (some b) clock #[] clock)) := by
    simp [Instr.range, run_underlying ht, getObj, Sem.run, hb, Result.andThen, run_newObj_alloc]
  unfold Oper.wpIn
  refine ⟨by simp [Oper.about, hop], ?_⟩
  rw [Oper.semAt_plain F _ _ (by rw [hop]; intro c hc'; cases hc')]
  simp [execOp, hop, hm, hrun, Result.andThen]
  exact hK' _ _ hK

theorem wpListIn_next_map (hg : o.guard = none) (it : Operand) (hop : o.op = Op.next it false) {b r clock since c0 : Nat} {es : Array MapEntry} {seen : Array Nat} {vs : List MapEntry} (hne : r ≠ b) (hit : a.eval it = .pointer (some ⟨r, 0, none⟩))
    (hr : w.heap[r]? = some (.mapIter (some b) since seen c0)) (hb : w.heap[b]? = some (.map es clock)) (hborn : BornOk es clock) (hsc : since ≤ c0) (hcs : clock ≤ since) (hC : Came es vs seen)
    (hDone : vs.Perm es.toList → wpListIn F n P ops Q rest (a.put o.dst (.tuple #[.bool false])) w)
    (hMore : ∀ (e : MapEntry) (w' : World), e ∈ es.toList → Came es (vs ++ [e]) (seen.push e.born) → w'.heap[r]? = some (.mapIter (some b) since (seen.push e.born) clock) → w.grownBy w' (some r) → w.drawn ≤ w'.drawn →
      (Instr.entry (.pointer (some ⟨r, 0, none⟩))).run P w' = .ok (.tuple #[e.key, e.val]) w' → wpListIn F n P ops Q rest (a.put o.dst (.tuple #[.bool true, e.key, e.val])) w') :
    wpListIn F n P ops Q (o :: rest) a w := by
  refine wpListIn_plain hg fun K' hK' => ?_
  unfold Oper.wpIn
  refine ⟨by simp [Oper.about, hop], ?_⟩
  rw [Oper.semAt_plain F _ _ (by rw [hop]; intro c hc'; cases hc')]
  have hold : ∀ x ∈ es.toList, x.born < since := fun x hx => by
    obtain ⟨i, hi, hix⟩ := List.getElem_of_mem hx
    have := hborn.1 i x (by rw [← hix]; simp)
    omega
  rcases run_next_at (P := P) w o.type r b since c0 seen es clock hr hb hold hsc with ⟨h0, hrun⟩ | ⟨e, he, w1, hal, hrun⟩
  · simp [execOp, hop, hit, hrun, Result.andThen]
    exact hK' _ _ (hDone (hC.perm hborn h0))
  · have hr1 : w1.heap[r]? = some (.mapIter (some b) since seen c0) := by rcases hal with rfl | rfl <;> exact hr
    have hb1 : w1.heap[b]? = some (.map es clock) := by rcases hal with rfl | rfl <;> exact hb
    have hset := setBlock_heap (o' := .mapIter (some b) since (seen.push e.born) clock) hr1
    have hb' : (setBlock w1 r (.mapIter (some b) since (seen.push e.born) clock)).heap[b]? = some (.map es clock) := (hset.2 b (fun e1 => hne e1.symm)).trans hb1
    have hem : e ∈ es.toList := (mem_left he).1
    simp [execOp, hop, hit, hrun, Result.andThen]
    refine hK' _ _ (hMore e _ hem (hC.step he) hset.1 ?_ ?_ (run_entry_at _ r b since seen es clock e hset.1 hb' hem (born_nodup hborn)))
    · rcases hal with rfl | rfl <;> exact ⟨rfl, rfl, rfl, by simp [setBlock], fun i _ hi => hset.2 i (fun e1 => hi (by rw [e1]))⟩
    · rcases hal with rfl | rfl
      · exact Nat.le_refl _
      · exact Nat.le_succ _
end

/-- How far an iterator over a map of n entries is from its end. -/
def toCome (n r : Nat) (W : World) : Nat := n - (match W.heap[r]? with | some (.mapIter _ _ seen _) => seen.size | _ => 0)
theorem toCome_eq {n r : Nat} {W : World} {m : Option Nat} {a c : Nat} {seen : Array Nat} (h : W.heap[r]? = some (.mapIter m a seen c)) : toCome n r W = n - seen.size := by simp [toCome, h]

def keyV (x : Nm) : Value := .agg #[.int .i64 x.who, .int .i64 x.seq]

set_option maxRecDepth 100000 in
set_option maxHeartbeats 2000000 in
/-- The iterator that maps.Keys hands back: the keys come, each once, in some order. -/
theorem keysNm_gives (F : Fence) (n : Nat) (hf : F.fn 129) (hro : F.round = none) (hn : 1 ≤ n) {Bm ob b clock : Nat} {es : Array MapEntry} (W : World) (hm' : W.cell? ⟨Bm, ob, none⟩ = some (.map (some b)))
    (hb' : W.heap[b]? = some (.map es clock)) (hborn : BornOk es clock) (key : MapEntry → Nm) (hkey : ∀ e ∈ es.toList, e.key = keyV (key e)) (l : Nat) (J : List Nm → World → Prop) (hJ : AbW W.heap.size J)
    (hY : ∀ pre x W1, J pre W1 → pre.length < es.size → YieldAt F (n - 1) Tryz.prog l #[keyV x] W1 fun e W' => e = .returned (.bool true) ∧ J (pre ++ [x]) W' ∧ KeepsWalks W1 W') (h0 : J [] W) :
    CallsIn F n Tryz.prog 129 #[.func (.yield l) #[] #[], .pointer (some ⟨Bm, ob, none⟩)] W fun e W' => (∃ v, e = .returned v) ∧ ∃ ss : List Nm, ss.Perm (es.toList.map key) ∧ J ss W' := by
  have hbW : b < W.heap.size := (Array.getElem?_eq_some_iff.1 hb').1
  refine callsIn_of_wp Tryz.func129 rfl hf ?_ hro
  simp only [Tryz.ntmps129, List.size_toArray, List.length_cons, List.length_nil, Nat.reduceAdd, Nat.reduceSub, Array.replicate_succ, Array.replicate_zero, List.push_toArray, List.append_toArray, List.nil_append, List.cons_append]
  gi_wp2_with (first
    | (gi_at_range; refine wpListIn_range_map _ rfl _ _ rfl _ _ Tryz.underlying112 rfl hb' ?_)
    | gi_in)
  have hg0 : W.grownBy (W.alloc (.mapIter (some b) clock #[] clock)) none := World.grownBy_alloc W _ none
  have hr0 : (W.alloc (.mapIter (some b) clock #[] clock)).heap[W.heap.size]? = some (.mapIter (some b) clock #[] clock) := heap_alloc_new W _
  have hb0 : (W.alloc (.mapIter (some b) clock #[] clock)).heap[b]? = some (.map es clock) := (hg0.block b hbW (by simp)).trans hb'
  have hJ0 := hJ [] W _ none h0 hg0 (Nat.le_refl _) (fun r e => by cases e)
  generalize W.alloc (.mapIter (some b) clock #[] clock) = w0 at *
  try go_frame
  gi_loopw [3] (fun _ wr => ∃ (vs : List MapEntry) (seen : Array Nat) (c0 : Nat), wr.heap[W.heap.size]? = some (.mapIter (some b) clock seen c0) ∧ wr.heap[b]? = some (.map es clock) ∧ clock ≤ c0 ∧ Came es vs seen ∧ J (vs.map key) wr)
    (fun _ wr => toCome es.size W.heap.size wr)
  case atStart =>
    exact ⟨[], #[], clock, hr0, hb0, Nat.le_refl _, ⟨by simp, by simp, by simp⟩, hJ0⟩
  case round =>
    obtain ⟨vs, seen, c0, hr, hbr, hcc, hC, hJs⟩ := hrel
    gi_wp2_with (first
      | (gi_at_next; refine wpListIn_next_map _ rfl _ rfl (Nat.ne_of_gt hbW) rfl hr hbr hborn hcc (Nat.le_refl _) hC ?_ ?_)
      | gi_in)
    · intro hp
      gi_wp2
      go_end0
      exact ⟨⟨_, rfl⟩, vs.map key, hp.map key, hJs⟩
    · intro e w2 he hC2 hr2 hg2 hd2 hen
      have hJ2 : J (vs.map key) w2 := hJ _ wr w2 (some W.heap.size) hJs hg2 hd2 (fun r e => by cases e; exact ⟨Nat.le_refl _, _, hr, rfl⟩)
      have hb2 : w2.heap[b]? = some (.map es clock) := (hg2.block b (Array.getElem?_eq_some_iff.1 hbr).1 (fun e => by injection e with e; omega)).trans hbr
      have hsz := hC2.size hborn
      have hvs : seen.size = vs.length := by have := congrArg List.length hC.seen; simpa using this
      have hg3 : w2.grownBy (w2.alloc (.cells #[.int .i64 (key e).who, .int .i64 (key e).seq] 42)) none := World.grownBy_alloc w2 _ none
      obtain ⟨fn, tmps, assign, body, hy, hR⟩ := hY (vs.map key) (key e) _ (hJ _ _ _ none hJ2 hg3 (Nat.le_refl _) (fun r e => by cases e)) (by simp at hsz ⊢; omega)
      have hr3 := (hg3.block _ (Array.getElem?_eq_some_iff.1 hr2).1 (by simp)).trans hr2
      have hb3 := (hg3.block _ (Array.getElem?_eq_some_iff.1 hb2).1 (by simp)).trans hb2
      rw [hkey e (by simpa using he)] at hen ⊢
      unfold keyV at hen hy ⊢
      gi_wp2
      refine hR.mono ?_
      rintro e' W3 ⟨rfl, hJ3, hk3⟩
      gi_wp2
      have hr4 := hk3.same _ _ hr3 rfl
      have hb4 := hk3.same _ _ hb3 rfl
      go_roundw
      case rel => exact ⟨vs ++ [e], seen.push e.born, clock, hr4, hb4, Nat.le_refl _, hC2, by simpa using hJ3⟩
      case measure => rw [toCome_eq hr4, toCome_eq hr]; simp at hsz ⊢; omega

/-- Between two rounds: the box holds what has come so far. -/
def AppI (b0 : Option Nat) (W0 : World) (l : List Nm) (ss : List Nm) (W : World) : Prop :=
  ∃ v gb, W.heap[W0.heap.size]? = some (.cells #[v] 33 (0, 0)) ∧ RowAt 2 b0 W0.heap.size W v (l.length + ss.length) ((l ++ ss).flatMap Nm.enc) gb ∧ gb ≠ some W0.heap.size ∧ Still b0 W0 W ∧ Head0 (l.length * 2) b0 W0 W
theorem appI_abW (b0 : Option Nat) (W0 : World) (l : List Nm) (hb0 : ∀ b, b0 = some b → b < W0.heap.size) : AbW (W0.heap.size + 1) (AppI b0 W0 l) := by
  rintro ss W W' row ⟨v, gb, h1, h2, h3, h4, h5⟩ hg hd hr
  have hrow : ∀ {k : Nat} {cur : Array Value} {e : TypeId}, W.heap[k]? = some (.cells cur e (0, 0)) → some k ≠ row := fun hk e => by
    obtain ⟨_, o, ho, hc⟩ := hr _ e.symm
    rw [hk] at ho; cases ho; cases hc
  refine ⟨v, gb, (hg.block _ (Array.getElem?_eq_some_iff.1 h1).1 (hrow h1)).trans h1, h2.kept hg ?_, h3, h4.step hg hd (fun r e => .inr (by have := (hr r e).1; omega)), h5.step hg ?_⟩
  rcases h2.lies with ⟨rfl, _⟩ | ⟨g, cap, cur, e, rfl, _, _, hb, _⟩
  · exact .inl rfl
  · exact .inr (hrow hb)
  · cases hb : b0 with
    | none => exact .inl rfl
    | some g => exact .inr fun e => by have := (hr g e.symm).1; have := hb0 g hb; omega

set_option maxRecDepth 100000 in
set_option maxHeartbeats 4000000 in
theorem appendSeqNm (W0 : World) (v0 : Value) (l : List Nm) (b0 : Option Nat) (hrow : RowAt 2 b0 W0.heap.size W0 v0 l.length (l.flatMap Nm.enc) b0) (hb0 : ∀ b, b0 = some b → b < W0.heap.size) {Bm ob b clock : Nat} {es : Array MapEntry} (hm : W0.cell? ⟨Bm, ob, none⟩ = some (.map (some b))) (hBm : some Bm ≠ b0)
    (hb : W0.heap[b]? = some (.map es clock)) (hbb : some b ≠ b0) (hborn : BornOk es clock) (key : MapEntry → Nm) (hkey : ∀ e ∈ es.toList, e.key = keyV (key e)) (hN : (l.length + es.size) * 16 ≤ 140737488355328) :
    Calls Tryz.prog 72 #[v0, .func (.func 129) #[] #[.pointer (some ⟨Bm, ob, none⟩)]] W0 fun e W' =>
      ∃ v ss gb, e = .returned v ∧ List.Perm ss (es.toList.map key) ∧ RowAt 2 b0 W0.heap.size W' v (l.length + ss.length) ((l ++ ss).flatMap Nm.enc) gb ∧ Still b0 W0 W' ∧ Head0 (l.length * 2) b0 W0 W' := by
  refine (callsIn_wide (n := 6)).1 ?_
  obtain ⟨ba, bn, bc, hv0⟩ : ∃ ba bn bc, v0 = .slice ba bn bc := by
    rcases hrow.lies with ⟨_, _, a, rfl⟩ | ⟨g, cap, cur, e, _, rfl, _⟩
    · exact ⟨_, _, _, rfl⟩
    · exact ⟨_, _, _, rfl⟩
  subst hv0
  have hBml : Bm < W0.heap.size := World.block_lt_of_cell? W0 _ hm
  have hbl : b < W0.heap.size := (Array.getElem?_eq_some_iff.1 hb).1
  refine callsIn_of_wp_marks Tryz.func72 rfl trivial ?_ rfl
  simp only [Tryz.ntmps72, List.size_toArray, List.length_cons, List.length_nil, Nat.reduceAdd, Nat.reduceSub, Array.replicate_succ, Array.replicate_zero, List.push_toArray, List.append_toArray, List.nil_append, List.cons_append]
  gi_wp2
  obtain ⟨W1, hW1⟩ : ∃ W1, W0.alloc (.cells #[.slice ba bn bc] 33) = W1 := ⟨_, rfl⟩
  have hs1 : W1.heap.size = W0.heap.size + 1 := by rw [← hW1]; simp
  have hg1 : W0.grownBy W1 none := by rw [← hW1]; exact World.grownBy_alloc W0 _ none
  have hd1 : W0.drawn ≤ W1.drawn := by rw [← hW1]; exact Nat.le_refl _
  have hv1 : W1.heap[W0.heap.size]? = some (.cells #[.slice ba bn bc] 33 (0, 0)) := by rw [← hW1]; exact heap_alloc_new W0 _
  rw [hW1]
  clear hW1
  refine wpIn_rangeFunc_gives (enc := keyV) (N := es.size) (S := fun ss => List.Perm ss (es.toList.map key)) rfl (by omega) rfl trivial (enters_of Tryz.func129 (by kernel_rfl) rfl) (AppI b0 W0 l) (by rw [hs1]; exact appI_abW b0 W0 l hb0)
    ⟨.slice ba bn bc, b0, hv1, by simpa using hrow.kept hg1 (by cases b0 <;> simp), fun e => by have := hb0 _ e; omega, (Still.refl b0 W0).step hg1 hd1 (fun r e => by cases e), (Head0.refl _ b0 W0).step hg1 (by cases b0 <;> simp)⟩ ?_
    (fun x a' W => ∃ Bv, a' = ⟨#[.slice ba bn bc, .func (.func 129) #[] #[.pointer (some ⟨Bm, ob, none⟩)], .pointer (some ⟨W0.heap.size, 0, none⟩), undef, .slice none 0 0, .pointer (some ⟨Bv, 0, none⟩), .func (.func 129) #[] #[.pointer (some ⟨Bm, ob, none⟩)], keyV x, undef, undef, undef, undef, undef], []⟩ ∧ W.heap[Bv]? = some (.cells #[.int .i64 x.who, .int .i64 x.seq] 42 (0, 0))) ?_ ?_ ?_ ?_
  · intro l' J W2 hI hsz hJ hY hJ0
    obtain ⟨v, gb, q1, q2, q3, q4, q6⟩ := hI
    exact keysNm_gives _ 5 trivial rfl (by omega) W2 ((World.cell?_of_block (q4.block Bm hBml hBm)).trans hm) ((q4.block b hbl hbb).trans hb) hborn key hkey l' J hJ hY hJ0
  · rintro x a' s W W' row ⟨Bv, h1, h2⟩ hg hd hr
    refine ⟨Bv, h1, (hg.block _ (Array.getElem?_eq_some_iff.1 h2).1 (fun e => ?_)).trans h2⟩
    obtain ⟨_, o, ho, hc⟩ := hr _ e.symm
    rw [h2] at ho; cases ho; cases hc
  · intro l' pre x W K hI hK
    change Code.wpIn (Fence.wide.inRound l') (6 - 1 - 1) Tryz.prog _ _ ⟨#[.slice ba bn bc, .func (.func 129) #[] #[.pointer (some ⟨Bm, ob, none⟩)], .pointer (some ⟨W0.heap.size, 0, none⟩), undef, .slice none 0 0, undef, .func (.func 129) #[] #[.pointer (some ⟨Bm, ob, none⟩)], keyV x, undef, undef, undef, undef, undef], []⟩ W
    have hK' := hK _ (W.alloc (.cells #[.int .i64 x.who, .int .i64 x.seq] 42)) (World.grownBy_alloc W _ none) (Nat.le_refl _) ⟨W.heap.size, rfl, heap_alloc_new W _⟩
    clear hK
    unfold keyV at hK' ⊢
    gi_wp2_with gi_round_op_a
    exact hK'
  · rintro l' pre x a' W ⟨v, gb, q1, q2, q3, q4, q6⟩ ⟨Bv, rfl, hBv⟩ hlen
    obtain ⟨hc1, hf1⟩ := cell_of_box_a q1
    have hk0 : W.cell? ⟨Bv, 0, none⟩ = some (.int .i64 x.who) := by simp [World.cell?, hBv]
    have hk1 : W.cell? ⟨Bv, 1, none⟩ = some (.int .i64 x.seq) := by simp [World.cell?, hBv]
    obtain ⟨inf, d, z, i1, i2, i3, i4, i5, i6, i7⟩ := hT.parts (t := 42) (by simp [TK.isNone])
    simp at i4 i5 i7
    obtain ⟨va, vn, vc, hv⟩ : ∃ va vn vc, v = .slice va vn vc := by
      rcases q2.lies with ⟨_, _, a, rfl⟩ | ⟨g, cap, cur, e, _, rfl, _⟩
      · exact ⟨_, _, _, rfl⟩
      · exact ⟨_, _, _, rfl⟩
    subst hv
    have hWs : W0.heap.size < W.heap.size := (Array.getElem?_eq_some_iff.1 q1).1
    have q5 : RowAt 2 b0 W0.heap.size (W.alloc (.cells #[.int .i64 x.who, .int .i64 x.seq] 42)) (.slice va vn vc) (l.length + pre.length) ((l ++ pre).flatMap Nm.enc) gb := q2.kept (World.grownBy_alloc W _ none) (by cases gb <;> simp)
    have hnew : ∀ (j : Nat) (u : Value), [Value.int .i64 x.who, Value.int .i64 x.seq][j]? = some u → (W.alloc (.cells #[.int .i64 x.who, .int .i64 x.seq] 42)).cell? ⟨W.heap.size, j, none⟩ = some u := fun j u hj => by
      have := heap_alloc_new W (.cells #[.int .i64 x.who, .int .i64 x.seq] 42)
      simp only [World.cell?, this]
      simpa using hj
    gi_wp2_with (first
      | (gi_at_builtin; refine wpListIn_append_row _ rfl _ _ 33 rfl Tryz.underlying33 i1 i6 i4 (by rw [← Array.length_toList, i7]; rfl) (by decide) rfl q5 (by simp; omega) rfl (news := [.int .i64 x.who, .int .i64 x.seq]) rfl (by simp [Value.oneCell']) hnew (by rw [i5]; omega) (by omega) ?_; intro v' W3 g' r1 r2 r3 r4 r5
         have hv3 : W3.heap[W0.heap.size]? = some (.cells #[.slice va vn vc] 33 (0, 0)) := (r2.block _ (by simp; omega) (fun e => q3 e.symm)).trans ((heap_alloc_old W _ hWs).trans q1)
         obtain ⟨hc3, hf3⟩ := cell_of_box_a hv3
         obtain ⟨cap', cur', e', rfl, s2, s3, s4, s5, s6, s7⟩ : ∃ cap' cur' e', v' = .slice (some ⟨g', 0, none⟩) (l.length + pre.length + 1) cap' ∧ (b0 = some g' ∨ W0.heap.size ≤ g') ∧ W3.heap[g']? = some (.cells cur' e' (0, 0)) ∧ l.length + pre.length + 1 ≤ cap' ∧ cap' ≤ maxLen ∧ cap' * 2 = cur'.size ∧ cur'.toList.take ((l.length + pre.length + 1) * 2) = (l ++ pre).flatMap Nm.enc ++ [.int .i64 x.who, .int .i64 x.seq] := by
           rcases r1.lies with ⟨h, _⟩ | ⟨g, cap, cur, e, h, h1, h2, h3, h4, h5, h6, h7⟩
           · cases h
           · injection h with h; subst h; exact ⟨cap, cur, e, h1, h2, h3, h4, h5, h6, h7⟩
         go_frame)
      | gi_round_op_a)
    have hg0 : W.grownBy (W.alloc (.cells #[.int .i64 x.who, .int .i64 x.seq] 42)) none := World.grownBy_alloc W _ none
    have hd0 : W.drawn ≤ (W.alloc (.cells #[.int .i64 x.who, .int .i64 x.seq] 42)).drawn := Nat.le_refl _
    have hgb : ∀ r, gb = some r → (b0 = some r ∨ W0.heap.size ≤ r) ∧ ∃ cur e, W.heap[r]? = some (.cells cur e (0, 0)) := fun r e => by
      rcases q2.lies with ⟨h, _⟩ | ⟨g, cap, cur, e', h, _, h2, h3, _⟩
      · rw [h] at e; cases e
      · rw [h] at e; injection e with e; subst e; exact ⟨h2, cur, e', h3⟩
    have hgne : g' ≠ W0.heap.size := by
      rcases r4 with h | h
      · exact fun e => q3 (by rw [h, e])
      · rw [h]; simp; omega
    generalize W.alloc (.cells #[.int .i64 x.who, .int .i64 x.seq] 42) = W2 at *
    have hg4 : W3.grownBy (W3.setCell ⟨W0.heap.size, 0, none⟩ (.slice (some ⟨g', 0, none⟩) (l.length + pre.length + 1) cap')) (some W0.heap.size) := grownBy_setCell0_a _ _ _
    refine ⟨⟨Nat.le_trans hg0.size (Nat.le_trans r2.size hg4.size), fun k o hk ho hcell => ?_⟩, ((KeepsWalks.of_grownBy hg0 (fun j o e => by cases e)).trans (KeepsWalks.of_grownBy r2 (fun j o e ho => ?_))).trans (KeepsWalks.setCell _ _ _),
      .slice (some ⟨g', 0, none⟩) (l.length + pre.length + 1) cap', some g', heap_setCell_box_a _ hv3, ?_, fun e => hgne (by injection e), ((q4.step hg0 hd0 (fun r e => by cases e)).step r2 r3 (fun r e => (hgb r e).1)).step hg4 (Nat.le_refl _) (fun r e => .inr (by injection e with e; omega)), ((q6.step hg0 (by cases b0 <;> simp)).write (by rw [Nat.add_mul]; omega) r2 r5).step hg4 ?_⟩
    · have h2 := (hg0.block k (Array.getElem?_eq_some_iff.1 ho).1 (by simp)).trans ho
      have h3 := (r2.block k (Array.getElem?_eq_some_iff.1 h2).1 (fun e => by
        obtain ⟨_, cur, e', h⟩ := hgb k e.symm
        rw [ho] at h; cases h; cases hcell)).trans h2
      exact (hg4.block k (Array.getElem?_eq_some_iff.1 h3).1 (fun e => by injection e with e; omega)).trans h3
    · obtain ⟨_, cur, e', h⟩ := hgb j e
      have h2 := (hg0.block j (Array.getElem?_eq_some_iff.1 h).1 (by simp)).trans h
      rw [ho] at h2; cases h2; rfl
    · have := r1.kept hg4 (.inr (fun e => hgne (by injection e)))
      simpa [Nm.enc, Nat.add_assoc] using this
    · cases hb : b0 with
      | none => exact .inl rfl
      | some g => exact .inr fun e => by injection e with e; have := hb0 g hb; omega
  · rintro D xs W hD hS ⟨v, gb, q1, q2, q3, q4, q6⟩ hdef
    obtain ⟨hc1, hf1⟩ := cell_of_box_a q1
    gi_wp2
    refine ⟨by simp, .inl ⟨_, _, rfl, run_takeDeferred hdef, ?_⟩⟩
    refine ⟨_, results_tmp rfl _ _ _, v, xs, gb, rfl, hS, q2.kept (grownBy_putObj_a _ _ _) ?_, q4.step (grownBy_putObj_a _ _ _) (Nat.le_refl _) (fun r e => .inr (by injection e with e; omega)), q6.step (grownBy_putObj_a _ _ _) ?_⟩
    rcases q2.lies with ⟨h, _⟩ | ⟨g, cap, cur, e', h, _, h2, h3, _⟩
    · exact .inl h
    · refine .inr fun e => ?_
      rw [h] at e; injection e with e; subst e
      rw [hdef] at h3; cases h3
    · cases hb : b0 with
      | none => exact .inl rfl
      | some g => exact .inr fun e => by injection e with e; have := hb0 g hb; omega
end Go.Eng
