/-
  Texts of the proofs of this seat, part 5. No condition.
-/
import Derived.Test.YtficgheaddkoeaaGreatMD
import Derived.Test.YtficgheaddkoeaaGreatProg
import Derived.KernelRfl
import Derived.Lib.Strings
import Derived.Lib.Slices
import Derived.Lib.Walk
import Derived.Lib.Bytealg
import Derived.Shelf.SlSortCmp.NoneTotal
import Derived.Shelf.SlGeneric
set_option linter.unusedVariables false
set_option linter.unusedSimpArgs false
namespace Go.Eng
def tab : List (Nat × TyI) :=
  [(2, ⟨.int .i64, 1, 8, [.int .i64 0], []⟩),
   (3, ⟨.int .i64, 1, 8, [.int .i64 0], []⟩),
   (4, ⟨.bool, 1, 1, [.bool false], []⟩),
   (5, ⟨.int .u8, 1, 1, [.int .u8 0], []⟩),
   (6, ⟨.int .u8, 1, 1, [.int .u8 0], []⟩),
   (9, ⟨.str, 1, 16, [.string .empty], []⟩),
   (10, ⟨.str, 1, 16, [.string .empty], []⟩),
   (11, ⟨.str, 1, 16, [.string .empty], []⟩),
   (12, ⟨.int .u64, 1, 8, [.int .u64 0], []⟩),
   (21, ⟨.int .i32, 1, 4, [.int .i32 0], []⟩),
   (22, ⟨.slice 3, 1, 24, [.slice none 0 0], []⟩),
   (23, ⟨.slice 30, 1, 24, [.slice none 0 0], []⟩),
   (24, ⟨.other, 1, 8, [.nilFunc], []⟩),
   (25, ⟨.slice 83, 1, 24, [.slice none 0 0], []⟩),
   (26, ⟨.other, 1, 8, [.nilFunc], []⟩),
   (27, ⟨.slice 25, 1, 24, [.slice none 0 0], []⟩),
   (28, ⟨.slice 31, 1, 24, [.slice none 0 0], []⟩),
   (29, ⟨.other, 1, 8, [.nilFunc], []⟩),
   (30, ⟨.slice 98, 1, 24, [.slice none 0 0], []⟩),
   (31, ⟨.slice 63, 1, 24, [.slice none 0 0], []⟩),
   (32, ⟨.int .i64, 1, 8, [.int .i64 0], []⟩),
   (34, ⟨.other, 1, 8, [.nilFunc], []⟩),
   (35, ⟨.other, 1, 8, [.nilFunc], []⟩),
   (37, ⟨.other, 1, 8, [.nilFunc], []⟩),
   (38, ⟨.other, 1, 8, [.nilFunc], []⟩),
   (39, ⟨.other, 1, 8, [.nilFunc], []⟩),
   (40, ⟨.other, 1, 8, [.nilFunc], []⟩),
   (41, ⟨.other, 1, 8, [.nilFunc], []⟩),
   (42, ⟨.struct [(0, 28)], 1, 24, [.slice none 0 0], []⟩),
   (43, ⟨.struct [(0, 28)], 1, 24, [.slice none 0 0], []⟩),
   (44, ⟨.other, 1, 8, [.nilFunc], []⟩),
   (45, ⟨.other, 1, 8, [.nilFunc], []⟩),
   (46, ⟨.slice 43, 1, 24, [.slice none 0 0], []⟩),
   (47, ⟨.other, 1, 8, [.nilFunc], []⟩),
   (49, ⟨.other, 1, 8, [.nilFunc], []⟩),
   (50, ⟨.struct [(0, 28)], 1, 24, [.slice none 0 0], []⟩),
   (51, ⟨.other, 1, 8, [.nilFunc], []⟩),
   (52, ⟨.other, 1, 8, [.nilFunc], []⟩),
   (53, ⟨.other, 1, 8, [.nilFunc], []⟩),
   (54, ⟨.other, 1, 8, [.nilFunc], []⟩),
   (55, ⟨.other, 1, 8, [.nilFunc], []⟩),
   (56, ⟨.other, 1, 8, [.nilFunc], []⟩),
   (57, ⟨.other, 1, 8, [.nilFunc], []⟩),
   (58, ⟨.other, 1, 8, [.nilFunc], []⟩),
   (59, ⟨.struct [(0, 3), (1, 3), (2, 3), (3, 31)], 4, 48, [.int .i64 0, .int .i64 0, .int .i64 0, .slice none 0 0], []⟩),
   (60, ⟨.struct [(0, 3), (1, 3), (2, 3), (3, 31)], 4, 48, [.int .i64 0, .int .i64 0, .int .i64 0, .slice none 0 0], []⟩),
   (61, ⟨.other, 1, 8, [.nilFunc], []⟩),
   (62, ⟨.struct [(0, 3), (1, 3)], 2, 16, [.int .i64 0, .int .i64 0], [.int .i64, .int .i64]⟩),
   (63, ⟨.struct [(0, 3), (1, 3)], 2, 16, [.int .i64 0, .int .i64 0], [.int .i64, .int .i64]⟩),
   (64, ⟨.slice 60, 1, 24, [.slice none 0 0], []⟩),
   (66, ⟨.other, 1, 8, [.nilFunc], []⟩),
   (67, ⟨.struct [(0, 3), (1, 3), (2, 3), (3, 31)], 4, 48, [.int .i64 0, .int .i64 0, .int .i64 0, .slice none 0 0], []⟩),
   (68, ⟨.other, 1, 8, [.nilFunc], []⟩),
   (70, ⟨.other, 1, 8, [.nilFunc], []⟩),
   (71, ⟨.other, 1, 8, [.nilFunc], []⟩),
   (72, ⟨.other, 1, 8, [.nilFunc], []⟩),
   (73, ⟨.other, 1, 8, [.nilFunc], []⟩),
   (74, ⟨.other, 1, 8, [.nilFunc], []⟩),
   (75, ⟨.slice 5, 1, 24, [.slice none 0 0], []⟩),
   (76, ⟨.other, 1, 8, [.nilFunc], []⟩),
   (77, ⟨.other, 1, 8, [.nilFunc], []⟩),
   (78, ⟨.other, 1, 8, [.nilFunc], []⟩),
   (79, ⟨.other, 1, 8, [.nilFunc], []⟩),
   (80, ⟨.other, 1, 8, [.nilFunc], []⟩),
   (81, ⟨.int .u64, 1, 8, [.int .u64 0], []⟩),
   (82, ⟨.struct [(0, 9), (1, 9)], 2, 32, [.string .empty, .string .empty], [.str, .str]⟩),
   (83, ⟨.struct [(0, 9), (1, 9)], 2, 32, [.string .empty, .string .empty], [.str, .str]⟩),
   (84, ⟨.other, 1, 8, [.nilFunc], []⟩),
   (85, ⟨.other, 1, 8, [.nilFunc], []⟩),
   (86, ⟨.other, 1, 8, [.nilFunc], []⟩),
   (87, ⟨.other, 1, 8, [.nilFunc], []⟩),
   (88, ⟨.other, 1, 8, [.nilFunc], []⟩),
   (89, ⟨.other, 1, 8, [.nilFunc], []⟩),
   (90, ⟨.other, 1, 8, [.nilFunc], []⟩),
   (91, ⟨.other, 1, 8, [.nilFunc], []⟩),
   (92, ⟨.other, 1, 8, [.nilFunc], []⟩),
   (93, ⟨.map 9 83, 1, 8, [.map none], []⟩),
   (95, ⟨.other, 1, 8, [.nilFunc], []⟩),
   (96, ⟨.slice 9, 1, 24, [.slice none 0 0], []⟩),
   (97, ⟨.struct [(0, 63), (2, 31), (3, 25), (4, 96)], 5, 88, [.int .i64 0, .int .i64 0, .slice none 0 0, .slice none 0 0, .slice none 0 0], []⟩),
   (98, ⟨.struct [(0, 63), (2, 31), (3, 25), (4, 96)], 5, 88, [.int .i64 0, .int .i64 0, .slice none 0 0, .slice none 0 0, .slice none 0 0], []⟩),
   (99, ⟨.other, 1, 8, [.nilFunc], []⟩),
   (100, ⟨.other, 1, 8, [.nilFunc], []⟩),
   (101, ⟨.other, 1, 8, [.nilFunc], []⟩),
   (102, ⟨.other, 1, 8, [.nilFunc], []⟩),
   (103, ⟨.other, 1, 8, [.nilFunc], []⟩),
   (104, ⟨.other, 1, 8, [.nilFunc], []⟩),
   (105, ⟨.other, 1, 8, [.nilFunc], []⟩),
   (106, ⟨.other, 1, 8, [.nilFunc], []⟩),
   (108, ⟨.other, 1, 8, [.nilFunc], []⟩),
   (109, ⟨.slice 111, 1, 24, [.slice none 0 0], []⟩),
   (110, ⟨.other, 1, 8, [.nilFunc], []⟩),
   (111, ⟨.arr 2 63, 4, 32, [.int .i64 0, .int .i64 0, .int .i64 0, .int .i64 0], [.int .i64, .int .i64, .int .i64, .int .i64]⟩),
   (112, ⟨.other, 1, 8, [.nilFunc], []⟩),
   (113, ⟨.other, 1, 8, [.nilFunc], []⟩),
   (114, ⟨.other, 1, 8, [.nilFunc], []⟩),
   (115, ⟨.other, 1, 8, [.nilFunc], []⟩),
   (116, ⟨.other, 1, 8, [.nilFunc], []⟩),
   (117, ⟨.slice 67, 1, 24, [.slice none 0 0], []⟩),
   (118, ⟨.slice 28, 1, 24, [.slice none 0 0], []⟩),
   (119, ⟨.slice 32, 1, 24, [.slice none 0 0], []⟩),
   (120, ⟨.other, 1, 8, [.nilFunc], []⟩),
   (121, ⟨.other, 1, 8, [.nilFunc], []⟩),
   (122, ⟨.other, 1, 8, [.nilFunc], []⟩),
   (123, ⟨.other, 1, 8, [.nilFunc], []⟩),
   (124, ⟨.other, 1, 8, [.nilFunc], []⟩),
   (125, ⟨.map 3 124, 1, 8, [.map none], []⟩),
   (126, ⟨.other, 1, 8, [.nilFunc], []⟩),
   (127, ⟨.other, 1, 8, [.nilFunc], []⟩),
   (128, ⟨.other, 1, 8, [.nilFunc], []⟩),
   (129, ⟨.other, 1, 8, [.nilFunc], []⟩),
   (130, ⟨.other, 1, 8, [.nilFunc], []⟩),
   (131, ⟨.other, 1, 8, [.nilFunc], []⟩),
   (132, ⟨.other, 1, 8, [.nilFunc], []⟩),
   (133, ⟨.other, 1, 8, [.nilFunc], []⟩),
   (134, ⟨.other, 1, 8, [.nilFunc], []⟩),
   (135, ⟨.other, 1, 8, [.nilFunc], []⟩),
   (136, ⟨.other, 1, 8, [.nilFunc], []⟩),
   (137, ⟨.other, 1, 8, [.nilFunc], []⟩),
   (138, ⟨.other, 1, 8, [.nilFunc], []⟩),
   (139, ⟨.other, 1, 8, [.nilFunc], []⟩),
   (140, ⟨.other, 1, 8, [.nilFunc], []⟩),
   (141, ⟨.other, 1, 8, [.nilFunc], []⟩),
   (142, ⟨.other, 1, 8, [.nilFunc], []⟩),
   (143, ⟨.other, 1, 8, [.nilFunc], []⟩),
   (144, ⟨.other, 1, 8, [.nilFunc], []⟩),
   (145, ⟨.other, 1, 8, [.nilFunc], []⟩),
   (146, ⟨.other, 1, 8, [.nilFunc], []⟩),
   (147, ⟨.other, 1, 8, [.nilFunc], []⟩),
   (148, ⟨.other, 1, 8, [.nilFunc], []⟩),
   (149, ⟨.other, 1, 8, [.nilFunc], []⟩),
   (150, ⟨.other, 1, 8, [.nilFunc], []⟩),
   (151, ⟨.other, 1, 8, [.nilFunc], []⟩),
   (152, ⟨.map 63 4, 1, 8, [.map none], []⟩),
   (153, ⟨.other, 1, 8, [.nilFunc], []⟩),
   (154, ⟨.other, 1, 8, [.nilFunc], []⟩),
   (155, ⟨.other, 1, 8, [.nilFunc], []⟩),
   (156, ⟨.other, 1, 8, [.nilFunc], []⟩),
   (157, ⟨.other, 1, 8, [.nilFunc], []⟩),
   (158, ⟨.other, 1, 8, [.nilFunc], []⟩),
   (159, ⟨.other, 1, 8, [.nilFunc], []⟩),
   (160, ⟨.other, 1, 8, [.nilFunc], []⟩),
   (161, ⟨.other, 1, 8, [.nilFunc], []⟩),
   (162, ⟨.other, 1, 8, [.nilFunc], []⟩),
   (163, ⟨.other, 1, 8, [.nilFunc], []⟩),
   (164, ⟨.other, 1, 8, [.nilFunc], []⟩),
   (165, ⟨.int .u64, 1, 8, [.int .u64 0], []⟩),
   (166, ⟨.other, 1, 8, [.nilFunc], []⟩),
   (167, ⟨.other, 1, 8, [.nilFunc], []⟩),
   (168, ⟨.other, 1, 8, [.nilFunc], []⟩),
   (169, ⟨.other, 1, 8, [.nilFunc], []⟩),
   (170, ⟨.other, 1, 8, [.nilFunc], []⟩),
   (171, ⟨.other, 1, 8, [.nilFunc], []⟩),
   (172, ⟨.other, 1, 8, [.nilFunc], []⟩),
   (173, ⟨.other, 1, 8, [.nilFunc], []⟩),
   (174, ⟨.other, 1, 8, [.nilFunc], []⟩),
   (175, ⟨.other, 1, 8, [.nilFunc], []⟩),
   (176, ⟨.other, 1, 8, [.nilFunc], []⟩),
   (177, ⟨.other, 1, 8, [.nilFunc], []⟩),
   (178, ⟨.other, 1, 8, [.nilFunc], []⟩),
   (179, ⟨.other, 1, 8, [.nilFunc], []⟩),
   (180, ⟨.other, 1, 8, [.nilFunc], []⟩),
   (181, ⟨.other, 1, 8, [.nilFunc], []⟩),
   (182, ⟨.other, 1, 8, [.nilFunc], []⟩),
   (183, ⟨.other, 1, 8, [.nilFunc], []⟩),
   (184, ⟨.other, 1, 8, [.nilFunc], []⟩),
   (185, ⟨.other, 1, 8, [.nilFunc], []⟩),
   (186, ⟨.int .i64, 1, 8, [.int .i64 0], []⟩),
   (188, ⟨.other, 1, 8, [.nilFunc], []⟩),
   (189, ⟨.other, 1, 8, [.nilFunc], []⟩),
   (190, ⟨.other, 1, 8, [.nilFunc], []⟩),
   (191, ⟨.other, 1, 8, [.nilFunc], []⟩),
   (193, ⟨.other, 1, 8, [.nilFunc], []⟩),
   (194, ⟨.other, 1, 8, [.nilFunc], []⟩),
   (195, ⟨.int .u32, 1, 4, [.int .u32 0], []⟩),
   (196, ⟨.other, 1, 8, [.nilFunc], []⟩),
   (197, ⟨.other, 1, 8, [.nilFunc], []⟩),
   (198, ⟨.other, 1, 8, [.nilFunc], []⟩),
   (199, ⟨.other, 1, 8, [.nilFunc], []⟩),
   (200, ⟨.other, 1, 8, [.nilFunc], []⟩),
   (201, ⟨.other, 1, 8, [.nilFunc], []⟩),
   (202, ⟨.other, 1, 8, [.nilFunc], []⟩),
   (203, ⟨.ptr 31, 1, 8, [.pointer none], []⟩),
   (204, ⟨.int .u64, 1, 8, [.int .u64 0], []⟩),
   (205, ⟨.other, 1, 8, [.nilFunc], []⟩),
   (206, ⟨.other, 1, 8, [.nilFunc], []⟩),
   (207, ⟨.other, 1, 8, [.nilFunc], []⟩),
   (208, ⟨.ptr 3, 1, 8, [.pointer none], []⟩),
   (209, ⟨.other, 1, 8, [.nilFunc], []⟩),
   (210, ⟨.other, 1, 8, [.nilFunc], []⟩),
   (211, ⟨.other, 1, 8, [.nilFunc], []⟩),
   (212, ⟨.other, 1, 8, [.nilFunc], []⟩),
   (213, ⟨.ptr 204, 1, 8, [.pointer none], []⟩),
   (215, ⟨.other, 1, 8, [.nilFunc], []⟩),
   (216, ⟨.other, 1, 8, [.nilFunc], []⟩),
   (217, ⟨.other, 1, 8, [.nilFunc], []⟩),
   (223, ⟨.other, 1, 8, [.nilFunc], []⟩),
   (224, ⟨.int .u8, 1, 1, [.int .u8 0], []⟩),
   (225, ⟨.int .u8, 1, 1, [.int .u8 0], []⟩),
   (226, ⟨.other, 1, 8, [.nilFunc], []⟩),
   (227, ⟨.ptr 5, 1, 8, [.pointer none], []⟩),
   (228, ⟨.int .i32, 1, 4, [.int .i32 0], []⟩),
   (229, ⟨.int .i32, 1, 4, [.int .i32 0], []⟩),
   (230, ⟨.struct [(0, 12), (1, 12), (2, 195), (3, 224), (4, 5), (5, 5), (6, 225), (7, 226), (8, 227), (9, 228), (10, 229)], 11, 48, [.int .u64 0, .int .u64 0, .int .u32 0, .int .u8 0, .int .u8 0, .int .u8 0, .int .u8 0, .nilFunc, .pointer none, .int .i32 0, .int .i32 0], []⟩),
   (231, ⟨.struct [(0, 12), (1, 12), (2, 195), (3, 224), (4, 5), (5, 5), (6, 225), (7, 226), (8, 227), (9, 228), (10, 229)], 11, 48, [.int .u64 0, .int .u64 0, .int .u32 0, .int .u8 0, .int .u8 0, .int .u8 0, .int .u8 0, .nilFunc, .pointer none, .int .i32 0, .int .i32 0], []⟩)]
def T : TypeId → TyI := lookT tab
theorem hT : TOk Go.Proofs.Tryz.prog T := tabChk_ok (by kernel_rfl)
theorem hW : TWf T := tabWf_ok (by kernel_rfl)
@[simp] theorem t2 : T 2 = ⟨.int .i64, 1, 8, [.int .i64 0], []⟩ := by kernel_rfl
@[simp] theorem t3 : T 3 = ⟨.int .i64, 1, 8, [.int .i64 0], []⟩ := by kernel_rfl
@[simp] theorem t4 : T 4 = ⟨.bool, 1, 1, [.bool false], []⟩ := by kernel_rfl
@[simp] theorem t5 : T 5 = ⟨.int .u8, 1, 1, [.int .u8 0], []⟩ := by kernel_rfl
@[simp] theorem t6 : T 6 = ⟨.int .u8, 1, 1, [.int .u8 0], []⟩ := by kernel_rfl
@[simp] theorem t9 : T 9 = ⟨.str, 1, 16, [.string .empty], []⟩ := by kernel_rfl
@[simp] theorem t10 : T 10 = ⟨.str, 1, 16, [.string .empty], []⟩ := by kernel_rfl
@[simp] theorem t11 : T 11 = ⟨.str, 1, 16, [.string .empty], []⟩ := by kernel_rfl
@[simp] theorem t12 : T 12 = ⟨.int .u64, 1, 8, [.int .u64 0], []⟩ := by kernel_rfl
@[simp] theorem t21 : T 21 = ⟨.int .i32, 1, 4, [.int .i32 0], []⟩ := by kernel_rfl
@[simp] theorem t22 : T 22 = ⟨.slice 3, 1, 24, [.slice none 0 0], []⟩ := by kernel_rfl
@[simp] theorem t23 : T 23 = ⟨.slice 30, 1, 24, [.slice none 0 0], []⟩ := by kernel_rfl
@[simp] theorem t24 : T 24 = ⟨.other, 1, 8, [.nilFunc], []⟩ := by kernel_rfl
@[simp] theorem t25 : T 25 = ⟨.slice 83, 1, 24, [.slice none 0 0], []⟩ := by kernel_rfl
@[simp] theorem t26 : T 26 = ⟨.other, 1, 8, [.nilFunc], []⟩ := by kernel_rfl
@[simp] theorem t27 : T 27 = ⟨.slice 25, 1, 24, [.slice none 0 0], []⟩ := by kernel_rfl
@[simp] theorem t28 : T 28 = ⟨.slice 31, 1, 24, [.slice none 0 0], []⟩ := by kernel_rfl
@[simp] theorem t29 : T 29 = ⟨.other, 1, 8, [.nilFunc], []⟩ := by kernel_rfl
@[simp] theorem t30 : T 30 = ⟨.slice 98, 1, 24, [.slice none 0 0], []⟩ := by kernel_rfl
@[simp] theorem t31 : T 31 = ⟨.slice 63, 1, 24, [.slice none 0 0], []⟩ := by kernel_rfl
@[simp] theorem t32 : T 32 = ⟨.int .i64, 1, 8, [.int .i64 0], []⟩ := by kernel_rfl
@[simp] theorem t34 : T 34 = ⟨.other, 1, 8, [.nilFunc], []⟩ := by kernel_rfl
@[simp] theorem t35 : T 35 = ⟨.other, 1, 8, [.nilFunc], []⟩ := by kernel_rfl
@[simp] theorem t37 : T 37 = ⟨.other, 1, 8, [.nilFunc], []⟩ := by kernel_rfl
@[simp] theorem t38 : T 38 = ⟨.other, 1, 8, [.nilFunc], []⟩ := by kernel_rfl
@[simp] theorem t39 : T 39 = ⟨.other, 1, 8, [.nilFunc], []⟩ := by kernel_rfl
@[simp] theorem t40 : T 40 = ⟨.other, 1, 8, [.nilFunc], []⟩ := by kernel_rfl
@[simp] theorem t41 : T 41 = ⟨.other, 1, 8, [.nilFunc], []⟩ := by kernel_rfl
@[simp] theorem t42 : T 42 = ⟨.struct [(0, 28)], 1, 24, [.slice none 0 0], []⟩ := by kernel_rfl
@[simp] theorem t43 : T 43 = ⟨.struct [(0, 28)], 1, 24, [.slice none 0 0], []⟩ := by kernel_rfl
@[simp] theorem t44 : T 44 = ⟨.other, 1, 8, [.nilFunc], []⟩ := by kernel_rfl
@[simp] theorem t45 : T 45 = ⟨.other, 1, 8, [.nilFunc], []⟩ := by kernel_rfl
@[simp] theorem t46 : T 46 = ⟨.slice 43, 1, 24, [.slice none 0 0], []⟩ := by kernel_rfl
@[simp] theorem t47 : T 47 = ⟨.other, 1, 8, [.nilFunc], []⟩ := by kernel_rfl
@[simp] theorem t49 : T 49 = ⟨.other, 1, 8, [.nilFunc], []⟩ := by kernel_rfl
@[simp] theorem t50 : T 50 = ⟨.struct [(0, 28)], 1, 24, [.slice none 0 0], []⟩ := by kernel_rfl
@[simp] theorem t51 : T 51 = ⟨.other, 1, 8, [.nilFunc], []⟩ := by kernel_rfl
@[simp] theorem t52 : T 52 = ⟨.other, 1, 8, [.nilFunc], []⟩ := by kernel_rfl
@[simp] theorem t53 : T 53 = ⟨.other, 1, 8, [.nilFunc], []⟩ := by kernel_rfl
@[simp] theorem t54 : T 54 = ⟨.other, 1, 8, [.nilFunc], []⟩ := by kernel_rfl
@[simp] theorem t55 : T 55 = ⟨.other, 1, 8, [.nilFunc], []⟩ := by kernel_rfl
@[simp] theorem t56 : T 56 = ⟨.other, 1, 8, [.nilFunc], []⟩ := by kernel_rfl
@[simp] theorem t57 : T 57 = ⟨.other, 1, 8, [.nilFunc], []⟩ := by kernel_rfl
@[simp] theorem t58 : T 58 = ⟨.other, 1, 8, [.nilFunc], []⟩ := by kernel_rfl
@[simp] theorem t59 : T 59 = ⟨.struct [(0, 3), (1, 3), (2, 3), (3, 31)], 4, 48, [.int .i64 0, .int .i64 0, .int .i64 0, .slice none 0 0], []⟩ := by kernel_rfl
@[simp] theorem t60 : T 60 = ⟨.struct [(0, 3), (1, 3), (2, 3), (3, 31)], 4, 48, [.int .i64 0, .int .i64 0, .int .i64 0, .slice none 0 0], []⟩ := by kernel_rfl
@[simp] theorem t61 : T 61 = ⟨.other, 1, 8, [.nilFunc], []⟩ := by kernel_rfl
@[simp] theorem t62 : T 62 = ⟨.struct [(0, 3), (1, 3)], 2, 16, [.int .i64 0, .int .i64 0], [.int .i64, .int .i64]⟩ := by kernel_rfl
@[simp] theorem t63 : T 63 = ⟨.struct [(0, 3), (1, 3)], 2, 16, [.int .i64 0, .int .i64 0], [.int .i64, .int .i64]⟩ := by kernel_rfl
@[simp] theorem t64 : T 64 = ⟨.slice 60, 1, 24, [.slice none 0 0], []⟩ := by kernel_rfl
@[simp] theorem t66 : T 66 = ⟨.other, 1, 8, [.nilFunc], []⟩ := by kernel_rfl
@[simp] theorem t67 : T 67 = ⟨.struct [(0, 3), (1, 3), (2, 3), (3, 31)], 4, 48, [.int .i64 0, .int .i64 0, .int .i64 0, .slice none 0 0], []⟩ := by kernel_rfl
@[simp] theorem t68 : T 68 = ⟨.other, 1, 8, [.nilFunc], []⟩ := by kernel_rfl
@[simp] theorem t70 : T 70 = ⟨.other, 1, 8, [.nilFunc], []⟩ := by kernel_rfl
@[simp] theorem t71 : T 71 = ⟨.other, 1, 8, [.nilFunc], []⟩ := by kernel_rfl
@[simp] theorem t72 : T 72 = ⟨.other, 1, 8, [.nilFunc], []⟩ := by kernel_rfl
@[simp] theorem t73 : T 73 = ⟨.other, 1, 8, [.nilFunc], []⟩ := by kernel_rfl
@[simp] theorem t74 : T 74 = ⟨.other, 1, 8, [.nilFunc], []⟩ := by kernel_rfl
@[simp] theorem t75 : T 75 = ⟨.slice 5, 1, 24, [.slice none 0 0], []⟩ := by kernel_rfl
@[simp] theorem t76 : T 76 = ⟨.other, 1, 8, [.nilFunc], []⟩ := by kernel_rfl
@[simp] theorem t77 : T 77 = ⟨.other, 1, 8, [.nilFunc], []⟩ := by kernel_rfl
@[simp] theorem t78 : T 78 = ⟨.other, 1, 8, [.nilFunc], []⟩ := by kernel_rfl
@[simp] theorem t79 : T 79 = ⟨.other, 1, 8, [.nilFunc], []⟩ := by kernel_rfl
@[simp] theorem t80 : T 80 = ⟨.other, 1, 8, [.nilFunc], []⟩ := by kernel_rfl
@[simp] theorem t81 : T 81 = ⟨.int .u64, 1, 8, [.int .u64 0], []⟩ := by kernel_rfl
@[simp] theorem t82 : T 82 = ⟨.struct [(0, 9), (1, 9)], 2, 32, [.string .empty, .string .empty], [.str, .str]⟩ := by kernel_rfl
@[simp] theorem t83 : T 83 = ⟨.struct [(0, 9), (1, 9)], 2, 32, [.string .empty, .string .empty], [.str, .str]⟩ := by kernel_rfl
@[simp] theorem t84 : T 84 = ⟨.other, 1, 8, [.nilFunc], []⟩ := by kernel_rfl
@[simp] theorem t85 : T 85 = ⟨.other, 1, 8, [.nilFunc], []⟩ := by kernel_rfl
@[simp] theorem t86 : T 86 = ⟨.other, 1, 8, [.nilFunc], []⟩ := by kernel_rfl
@[simp] theorem t87 : T 87 = ⟨.other, 1, 8, [.nilFunc], []⟩ := by kernel_rfl
@[simp] theorem t88 : T 88 = ⟨.other, 1, 8, [.nilFunc], []⟩ := by kernel_rfl
@[simp] theorem t89 : T 89 = ⟨.other, 1, 8, [.nilFunc], []⟩ := by kernel_rfl
@[simp] theorem t90 : T 90 = ⟨.other, 1, 8, [.nilFunc], []⟩ := by kernel_rfl
@[simp] theorem t91 : T 91 = ⟨.other, 1, 8, [.nilFunc], []⟩ := by kernel_rfl
@[simp] theorem t92 : T 92 = ⟨.other, 1, 8, [.nilFunc], []⟩ := by kernel_rfl
@[simp] theorem t93 : T 93 = ⟨.map 9 83, 1, 8, [.map none], []⟩ := by kernel_rfl
@[simp] theorem t95 : T 95 = ⟨.other, 1, 8, [.nilFunc], []⟩ := by kernel_rfl
@[simp] theorem t96 : T 96 = ⟨.slice 9, 1, 24, [.slice none 0 0], []⟩ := by kernel_rfl
@[simp] theorem t97 : T 97 = ⟨.struct [(0, 63), (2, 31), (3, 25), (4, 96)], 5, 88, [.int .i64 0, .int .i64 0, .slice none 0 0, .slice none 0 0, .slice none 0 0], []⟩ := by kernel_rfl
@[simp] theorem t98 : T 98 = ⟨.struct [(0, 63), (2, 31), (3, 25), (4, 96)], 5, 88, [.int .i64 0, .int .i64 0, .slice none 0 0, .slice none 0 0, .slice none 0 0], []⟩ := by kernel_rfl
@[simp] theorem t99 : T 99 = ⟨.other, 1, 8, [.nilFunc], []⟩ := by kernel_rfl
@[simp] theorem t100 : T 100 = ⟨.other, 1, 8, [.nilFunc], []⟩ := by kernel_rfl
@[simp] theorem t101 : T 101 = ⟨.other, 1, 8, [.nilFunc], []⟩ := by kernel_rfl
@[simp] theorem t102 : T 102 = ⟨.other, 1, 8, [.nilFunc], []⟩ := by kernel_rfl
@[simp] theorem t103 : T 103 = ⟨.other, 1, 8, [.nilFunc], []⟩ := by kernel_rfl
@[simp] theorem t104 : T 104 = ⟨.other, 1, 8, [.nilFunc], []⟩ := by kernel_rfl
@[simp] theorem t105 : T 105 = ⟨.other, 1, 8, [.nilFunc], []⟩ := by kernel_rfl
@[simp] theorem t106 : T 106 = ⟨.other, 1, 8, [.nilFunc], []⟩ := by kernel_rfl
@[simp] theorem t108 : T 108 = ⟨.other, 1, 8, [.nilFunc], []⟩ := by kernel_rfl
@[simp] theorem t109 : T 109 = ⟨.slice 111, 1, 24, [.slice none 0 0], []⟩ := by kernel_rfl
@[simp] theorem t110 : T 110 = ⟨.other, 1, 8, [.nilFunc], []⟩ := by kernel_rfl
@[simp] theorem t111 : T 111 = ⟨.arr 2 63, 4, 32, [.int .i64 0, .int .i64 0, .int .i64 0, .int .i64 0], [.int .i64, .int .i64, .int .i64, .int .i64]⟩ := by kernel_rfl
@[simp] theorem t112 : T 112 = ⟨.other, 1, 8, [.nilFunc], []⟩ := by kernel_rfl
@[simp] theorem t113 : T 113 = ⟨.other, 1, 8, [.nilFunc], []⟩ := by kernel_rfl
@[simp] theorem t114 : T 114 = ⟨.other, 1, 8, [.nilFunc], []⟩ := by kernel_rfl
@[simp] theorem t115 : T 115 = ⟨.other, 1, 8, [.nilFunc], []⟩ := by kernel_rfl
@[simp] theorem t116 : T 116 = ⟨.other, 1, 8, [.nilFunc], []⟩ := by kernel_rfl
@[simp] theorem t117 : T 117 = ⟨.slice 67, 1, 24, [.slice none 0 0], []⟩ := by kernel_rfl
@[simp] theorem t118 : T 118 = ⟨.slice 28, 1, 24, [.slice none 0 0], []⟩ := by kernel_rfl
@[simp] theorem t119 : T 119 = ⟨.slice 32, 1, 24, [.slice none 0 0], []⟩ := by kernel_rfl
@[simp] theorem t120 : T 120 = ⟨.other, 1, 8, [.nilFunc], []⟩ := by kernel_rfl
@[simp] theorem t121 : T 121 = ⟨.other, 1, 8, [.nilFunc], []⟩ := by kernel_rfl
@[simp] theorem t122 : T 122 = ⟨.other, 1, 8, [.nilFunc], []⟩ := by kernel_rfl
@[simp] theorem t123 : T 123 = ⟨.other, 1, 8, [.nilFunc], []⟩ := by kernel_rfl
@[simp] theorem t124 : T 124 = ⟨.other, 1, 8, [.nilFunc], []⟩ := by kernel_rfl
@[simp] theorem t125 : T 125 = ⟨.map 3 124, 1, 8, [.map none], []⟩ := by kernel_rfl
@[simp] theorem t126 : T 126 = ⟨.other, 1, 8, [.nilFunc], []⟩ := by kernel_rfl
@[simp] theorem t127 : T 127 = ⟨.other, 1, 8, [.nilFunc], []⟩ := by kernel_rfl
@[simp] theorem t128 : T 128 = ⟨.other, 1, 8, [.nilFunc], []⟩ := by kernel_rfl
@[simp] theorem t129 : T 129 = ⟨.other, 1, 8, [.nilFunc], []⟩ := by kernel_rfl
@[simp] theorem t130 : T 130 = ⟨.other, 1, 8, [.nilFunc], []⟩ := by kernel_rfl
@[simp] theorem t131 : T 131 = ⟨.other, 1, 8, [.nilFunc], []⟩ := by kernel_rfl
@[simp] theorem t132 : T 132 = ⟨.other, 1, 8, [.nilFunc], []⟩ := by kernel_rfl
@[simp] theorem t133 : T 133 = ⟨.other, 1, 8, [.nilFunc], []⟩ := by kernel_rfl
@[simp] theorem t134 : T 134 = ⟨.other, 1, 8, [.nilFunc], []⟩ := by kernel_rfl
@[simp] theorem t135 : T 135 = ⟨.other, 1, 8, [.nilFunc], []⟩ := by kernel_rfl
@[simp] theorem t136 : T 136 = ⟨.other, 1, 8, [.nilFunc], []⟩ := by kernel_rfl
@[simp] theorem t137 : T 137 = ⟨.other, 1, 8, [.nilFunc], []⟩ := by kernel_rfl
@[simp] theorem t138 : T 138 = ⟨.other, 1, 8, [.nilFunc], []⟩ := by kernel_rfl
@[simp] theorem t139 : T 139 = ⟨.other, 1, 8, [.nilFunc], []⟩ := by kernel_rfl
@[simp] theorem t140 : T 140 = ⟨.other, 1, 8, [.nilFunc], []⟩ := by kernel_rfl
@[simp] theorem t141 : T 141 = ⟨.other, 1, 8, [.nilFunc], []⟩ := by kernel_rfl
@[simp] theorem t142 : T 142 = ⟨.other, 1, 8, [.nilFunc], []⟩ := by kernel_rfl
@[simp] theorem t143 : T 143 = ⟨.other, 1, 8, [.nilFunc], []⟩ := by kernel_rfl
@[simp] theorem t144 : T 144 = ⟨.other, 1, 8, [.nilFunc], []⟩ := by kernel_rfl
@[simp] theorem t145 : T 145 = ⟨.other, 1, 8, [.nilFunc], []⟩ := by kernel_rfl
@[simp] theorem t146 : T 146 = ⟨.other, 1, 8, [.nilFunc], []⟩ := by kernel_rfl
@[simp] theorem t147 : T 147 = ⟨.other, 1, 8, [.nilFunc], []⟩ := by kernel_rfl
@[simp] theorem t148 : T 148 = ⟨.other, 1, 8, [.nilFunc], []⟩ := by kernel_rfl
@[simp] theorem t149 : T 149 = ⟨.other, 1, 8, [.nilFunc], []⟩ := by kernel_rfl
@[simp] theorem t150 : T 150 = ⟨.other, 1, 8, [.nilFunc], []⟩ := by kernel_rfl
@[simp] theorem t151 : T 151 = ⟨.other, 1, 8, [.nilFunc], []⟩ := by kernel_rfl
@[simp] theorem t152 : T 152 = ⟨.map 63 4, 1, 8, [.map none], []⟩ := by kernel_rfl
@[simp] theorem t153 : T 153 = ⟨.other, 1, 8, [.nilFunc], []⟩ := by kernel_rfl
@[simp] theorem t154 : T 154 = ⟨.other, 1, 8, [.nilFunc], []⟩ := by kernel_rfl
@[simp] theorem t155 : T 155 = ⟨.other, 1, 8, [.nilFunc], []⟩ := by kernel_rfl
@[simp] theorem t156 : T 156 = ⟨.other, 1, 8, [.nilFunc], []⟩ := by kernel_rfl
@[simp] theorem t157 : T 157 = ⟨.other, 1, 8, [.nilFunc], []⟩ := by kernel_rfl
@[simp] theorem t158 : T 158 = ⟨.other, 1, 8, [.nilFunc], []⟩ := by kernel_rfl
@[simp] theorem t159 : T 159 = ⟨.other, 1, 8, [.nilFunc], []⟩ := by kernel_rfl
@[simp] theorem t160 : T 160 = ⟨.other, 1, 8, [.nilFunc], []⟩ := by kernel_rfl
@[simp] theorem t161 : T 161 = ⟨.other, 1, 8, [.nilFunc], []⟩ := by kernel_rfl
@[simp] theorem t162 : T 162 = ⟨.other, 1, 8, [.nilFunc], []⟩ := by kernel_rfl
@[simp] theorem t163 : T 163 = ⟨.other, 1, 8, [.nilFunc], []⟩ := by kernel_rfl
@[simp] theorem t164 : T 164 = ⟨.other, 1, 8, [.nilFunc], []⟩ := by kernel_rfl
@[simp] theorem t165 : T 165 = ⟨.int .u64, 1, 8, [.int .u64 0], []⟩ := by kernel_rfl
@[simp] theorem t166 : T 166 = ⟨.other, 1, 8, [.nilFunc], []⟩ := by kernel_rfl
@[simp] theorem t167 : T 167 = ⟨.other, 1, 8, [.nilFunc], []⟩ := by kernel_rfl
@[simp] theorem t168 : T 168 = ⟨.other, 1, 8, [.nilFunc], []⟩ := by kernel_rfl
@[simp] theorem t169 : T 169 = ⟨.other, 1, 8, [.nilFunc], []⟩ := by kernel_rfl
@[simp] theorem t170 : T 170 = ⟨.other, 1, 8, [.nilFunc], []⟩ := by kernel_rfl
@[simp] theorem t171 : T 171 = ⟨.other, 1, 8, [.nilFunc], []⟩ := by kernel_rfl
@[simp] theorem t172 : T 172 = ⟨.other, 1, 8, [.nilFunc], []⟩ := by kernel_rfl
@[simp] theorem t173 : T 173 = ⟨.other, 1, 8, [.nilFunc], []⟩ := by kernel_rfl
@[simp] theorem t174 : T 174 = ⟨.other, 1, 8, [.nilFunc], []⟩ := by kernel_rfl
@[simp] theorem t175 : T 175 = ⟨.other, 1, 8, [.nilFunc], []⟩ := by kernel_rfl
@[simp] theorem t176 : T 176 = ⟨.other, 1, 8, [.nilFunc], []⟩ := by kernel_rfl
@[simp] theorem t177 : T 177 = ⟨.other, 1, 8, [.nilFunc], []⟩ := by kernel_rfl
@[simp] theorem t178 : T 178 = ⟨.other, 1, 8, [.nilFunc], []⟩ := by kernel_rfl
@[simp] theorem t179 : T 179 = ⟨.other, 1, 8, [.nilFunc], []⟩ := by kernel_rfl
@[simp] theorem t180 : T 180 = ⟨.other, 1, 8, [.nilFunc], []⟩ := by kernel_rfl
@[simp] theorem t181 : T 181 = ⟨.other, 1, 8, [.nilFunc], []⟩ := by kernel_rfl
@[simp] theorem t182 : T 182 = ⟨.other, 1, 8, [.nilFunc], []⟩ := by kernel_rfl
@[simp] theorem t183 : T 183 = ⟨.other, 1, 8, [.nilFunc], []⟩ := by kernel_rfl
@[simp] theorem t184 : T 184 = ⟨.other, 1, 8, [.nilFunc], []⟩ := by kernel_rfl
@[simp] theorem t185 : T 185 = ⟨.other, 1, 8, [.nilFunc], []⟩ := by kernel_rfl
@[simp] theorem t186 : T 186 = ⟨.int .i64, 1, 8, [.int .i64 0], []⟩ := by kernel_rfl
@[simp] theorem t188 : T 188 = ⟨.other, 1, 8, [.nilFunc], []⟩ := by kernel_rfl
@[simp] theorem t189 : T 189 = ⟨.other, 1, 8, [.nilFunc], []⟩ := by kernel_rfl
@[simp] theorem t190 : T 190 = ⟨.other, 1, 8, [.nilFunc], []⟩ := by kernel_rfl
@[simp] theorem t191 : T 191 = ⟨.other, 1, 8, [.nilFunc], []⟩ := by kernel_rfl
@[simp] theorem t193 : T 193 = ⟨.other, 1, 8, [.nilFunc], []⟩ := by kernel_rfl
@[simp] theorem t194 : T 194 = ⟨.other, 1, 8, [.nilFunc], []⟩ := by kernel_rfl
@[simp] theorem t195 : T 195 = ⟨.int .u32, 1, 4, [.int .u32 0], []⟩ := by kernel_rfl
@[simp] theorem t196 : T 196 = ⟨.other, 1, 8, [.nilFunc], []⟩ := by kernel_rfl
@[simp] theorem t197 : T 197 = ⟨.other, 1, 8, [.nilFunc], []⟩ := by kernel_rfl
@[simp] theorem t198 : T 198 = ⟨.other, 1, 8, [.nilFunc], []⟩ := by kernel_rfl
@[simp] theorem t199 : T 199 = ⟨.other, 1, 8, [.nilFunc], []⟩ := by kernel_rfl
@[simp] theorem t200 : T 200 = ⟨.other, 1, 8, [.nilFunc], []⟩ := by kernel_rfl
@[simp] theorem t201 : T 201 = ⟨.other, 1, 8, [.nilFunc], []⟩ := by kernel_rfl
@[simp] theorem t202 : T 202 = ⟨.other, 1, 8, [.nilFunc], []⟩ := by kernel_rfl
@[simp] theorem t203 : T 203 = ⟨.ptr 31, 1, 8, [.pointer none], []⟩ := by kernel_rfl
@[simp] theorem t204 : T 204 = ⟨.int .u64, 1, 8, [.int .u64 0], []⟩ := by kernel_rfl
@[simp] theorem t205 : T 205 = ⟨.other, 1, 8, [.nilFunc], []⟩ := by kernel_rfl
@[simp] theorem t206 : T 206 = ⟨.other, 1, 8, [.nilFunc], []⟩ := by kernel_rfl
@[simp] theorem t207 : T 207 = ⟨.other, 1, 8, [.nilFunc], []⟩ := by kernel_rfl
@[simp] theorem t208 : T 208 = ⟨.ptr 3, 1, 8, [.pointer none], []⟩ := by kernel_rfl
@[simp] theorem t209 : T 209 = ⟨.other, 1, 8, [.nilFunc], []⟩ := by kernel_rfl
@[simp] theorem t210 : T 210 = ⟨.other, 1, 8, [.nilFunc], []⟩ := by kernel_rfl
@[simp] theorem t211 : T 211 = ⟨.other, 1, 8, [.nilFunc], []⟩ := by kernel_rfl
@[simp] theorem t212 : T 212 = ⟨.other, 1, 8, [.nilFunc], []⟩ := by kernel_rfl
@[simp] theorem t213 : T 213 = ⟨.ptr 204, 1, 8, [.pointer none], []⟩ := by kernel_rfl
@[simp] theorem t215 : T 215 = ⟨.other, 1, 8, [.nilFunc], []⟩ := by kernel_rfl
@[simp] theorem t216 : T 216 = ⟨.other, 1, 8, [.nilFunc], []⟩ := by kernel_rfl
@[simp] theorem t217 : T 217 = ⟨.other, 1, 8, [.nilFunc], []⟩ := by kernel_rfl
@[simp] theorem t223 : T 223 = ⟨.other, 1, 8, [.nilFunc], []⟩ := by kernel_rfl
@[simp] theorem t224 : T 224 = ⟨.int .u8, 1, 1, [.int .u8 0], []⟩ := by kernel_rfl
@[simp] theorem t225 : T 225 = ⟨.int .u8, 1, 1, [.int .u8 0], []⟩ := by kernel_rfl
@[simp] theorem t226 : T 226 = ⟨.other, 1, 8, [.nilFunc], []⟩ := by kernel_rfl
@[simp] theorem t227 : T 227 = ⟨.ptr 5, 1, 8, [.pointer none], []⟩ := by kernel_rfl
@[simp] theorem t228 : T 228 = ⟨.int .i32, 1, 4, [.int .i32 0], []⟩ := by kernel_rfl
@[simp] theorem t229 : T 229 = ⟨.int .i32, 1, 4, [.int .i32 0], []⟩ := by kernel_rfl
@[simp] theorem t230 : T 230 = ⟨.struct [(0, 12), (1, 12), (2, 195), (3, 224), (4, 5), (5, 5), (6, 225), (7, 226), (8, 227), (9, 228), (10, 229)], 11, 48, [.int .u64 0, .int .u64 0, .int .u32 0, .int .u8 0, .int .u8 0, .int .u8 0, .int .u8 0, .nilFunc, .pointer none, .int .i32 0, .int .i32 0], []⟩ := by kernel_rfl
@[simp] theorem t231 : T 231 = ⟨.struct [(0, 12), (1, 12), (2, 195), (3, 224), (4, 5), (5, 5), (6, 225), (7, 226), (8, 227), (9, 228), (10, 229)], 11, 48, [.int .u64 0, .int .u64 0, .int .u32 0, .int .u8 0, .int .u8 0, .int .u8 0, .int .u8 0, .nilFunc, .pointer none, .int .i32 0, .int .i32 0], []⟩ := by kernel_rfl
end Go.Eng
namespace Go.Eng
section
variable {P : Program} {T : TypeId → TyI} {N : Nat} {w0 : Base} {X : Nat → Prop} {Q : LX → Env → Obs → Prop} {env : Env} {H : Obs}
theorem LWp.rz (hT : TOk P T) (hW : TWf T) {id : Nat} {l : List Oper} (h : (runL P T N l (fun _ => none) env H).ok ∧ Q .normal (runL P T N l (fun _ => none) env H).env (runL P T N l (fun _ => none) env H).H) :
    LWp P N w0 X (.region id l.toArray false) Q env H := LWp.reg hT hW (fun _ => none) (fun _ => ⟨rfl, fun _ h => h⟩) h
theorem LWp.ro (hT : TOk P T) (hW : TWf T) {id : Nat} {l : List Oper} (orc : Nat → Option Orc) (h : (runL P T N l orc env H).ok ∧ Q .normal (runL P T N l orc env H).env (runL P T N l orc env H).H)
    (hdet : ∀ d, DetS (orc d) := by intro d; first | exact ⟨rfl, fun _ h => h⟩ | (split <;> exact ⟨rfl, fun _ h => h⟩)) : LWp P N w0 X (.region id l.toArray false) Q env H := LWp.reg hT hW orc hdet h
end
end Go.Eng
namespace Go.Eng
open Go.Proofs
theorem hMixed : Tryz.prog.follows .mixedOrders = true := by kernel_rfl
theorem nm_eq (a b : Nm) : (decide (a.who = b.who) && decide (a.seq = b.seq)) = decide (a = b) := by
  cases a; cases b; simp [Bool.decide_and]
theorem df_eq (a b : Df) : (a.name == b.name && a.text == b.text) = decide (a = b) := by
  cases a; cases b; simp [Bool.beq_eq_decide_eq]
attribute [local simp] runL stepL evalG evalOp opLV constLV putEnv dstOk upd upds Res.plain Res.cond Res.fail evalBin evalUn seqQ blockQ argsEnv lookL lookH RetIs memless freshL evalPick evalMin bval bok evalLen evalIn strip whenC guardOps guardC slotsOf
  runM foldS stepI stepM maskE wrIn lk renO lookN evalCall evalCallee optAll resLV resObj retLV retObj retsLV retsObj evalLoad evalIndexAddr evalField solid cellsD_agg cellsD_int cellsD_bool cellsD_str cellsD_sl cellsD_ro cellsD_fn cellsL_agg cellsL_dagg cellsL_int cellsL_bool cellsL_str cellsL_sl cellsL_fn cellsL_ow cellsL_bx cellsL_lfn cellsL_nl takeL takeD mkAgg allD eqD eqDs kindsAre kindIs LObj.live TK.isNone TK.agg TK.isBool TK.isStr TK.isStruct Op.operands Call.operands
  evalBuildSlice evalAppend elemsOf evalStore evalBuild fillL lookupF putL evalSlice bound evalConv elemsS freezes frozen loadR
  mkEnv_at mkObs_at close_d close_agg close_ow close_bx close_fn close_nl touch_d touch_agg touch_ow touch_bx touch_fn touch_nl ren_d ren_agg ren_bx ren_rp ren_ow ren_fn ren_nl ren_junk retQ_ret retQ2_ret condQ_bool Nm.d Df.d Ed.d nmsD dfsD strsD edsD retC_ret nm_eq df_eq take_map_len take_map_app
  nm_t nm_d nm_td df_t df_d df_td str_t str_d str_td ed_t ed_d ed_td
  evalAppendIn evalBuildSliceC evalCopyC shortL evalApart evalAppendC evalAppendZ evalAppendG evalCapC isOc TK.isInt close_oc touch_oc ren_oc cellsL_oc evalCut evalClear evalCopy evalMake evalWrap evalCap evalNil isNilC lenL isInp gorc gorc2
  mapOf findD keyEq keyOk evalMakeMap evalRange zeroD zeroDV argsG shutG outN lenv retG0_ret retG0_normal retG1_ret retGR_ret renO close_mp touch_mp ren_mp optAll_d optAll_d' touch_ds cellsL_mp cellsD_mp cellsL_dmp
  evalMapSet evalPtr TK.isPtr evalToArr firstL retN_ret retsQ rvarL close_bm touch_bm ren_bm cellsD_bm cellsL_bm cellsL_lbm
section
theorem Has_ok (l : List Nm) (n : Nm) : Ok Tryz.prog 52 [nmsD l, n.d] ⟨.d (.bool (decide (n ∈ l))), true⟩ := by
  refine Ok.ret Tryz.func52 (by kernel_rfl) (c := _) rfl Tryz.ntmps52 (by simp) Tryz.results52 (by intro _ h; cases h) fun w0 X hp => ?_
  refine LWp.len (t := 0) rfl fun hlen => ?_
  simp at hlen
  refine LWp.seq ?_
  refine LWp.rz hT hW ?_
  simp
  refine LWp.seq ?_
  refine LWp.seq ?_
  refine LWp.rz hT hW ?_
  simp
  refine LWp.block ?_
  refine LWp.loopW (ι := Nat) (fun i => mkEnv [(0, .d (nmsD l)), (3, .bx 3 0), (5, .d (I64 i))]) (fun i => mkObs [(3, .box false [.d (I64 n.who), .d (I64 n.seq)])]) (fun i => i ≤ l.length ∧ n ∉ l.take i) (fun i => l.length - i) 0 (Weak.to [0, 3, 5] [(3, 3)] (by decide) (by decide) (by simp [hp]) (by simp) (by simp)) (by simp) fun i hi2 => ?_
  refine LWp.seq ?_
  refine LWp.seq ?_
  refine LWp.rz hT hW ?_
  simp
  refine LWp.iff ?_
  simp
  refine ⟨fun h2 => ?_, fun h2 => ?_⟩
  · refine LWp.skip ?_
    simp
    refine LWp.seq ?_
    refine LWp.block ?_
    refine LWp.seq ?_
    refine LWp.regAny hT hW hMixed (lk [[],[],[0,1],[0,1,2],[],[0,1,2,3,4]]) (lk [[],[],[],[],[],[]]) (lk [[],[],[],[],[],[]]) (by kernel_rfl) (fun _ => none) (fun _ => ⟨rfl, fun _ h => h⟩) ?_
    simp [h2]
    refine LWp.iff ?_
    simp
    refine ⟨fun h4 => ?_, fun h4 => ?_⟩
    · refine LWp.seq ?_
      refine LWp.rz hT hW ?_
      simp
      refine LWp.ret ?_
      simp
      rw [← h4]; exact List.getElem_mem h2
    · refine LWp.skip ?_
      simp
      refine LWp.rz hT hW ?_
      simp
      refine ⟨by omega, ?_⟩
      refine loopQ.mk (i + 1) (Weak.to [0, 3, 5] [(3, 3)] (by decide) (by decide) (by simp [hp]) (by simp) (by simp)) ?_ ?_
      · exact ⟨h2, fun hm => ((mem_take_succ h2).1 hm).elim hi2.2 fun e => h4 e.symm⟩
      · omega
  · refine LWp.exit ?_
    simp
    refine LWp.seq ?_
    refine LWp.rz hT hW ?_
    simp
    refine LWp.ret ?_
    simp
    have e : i = l.length := by omega
    have := hi2.2
    rw [e, List.take_length] at this
    exact this
theorem Around_ok (n m : Int) (h1 : -9223372036854775808 ≤ n) (h2 : n ≤ 9223372036854775807) (hm : m ≠ 0) : Ok Tryz.prog 27 [I64 n, I64 m] ⟨.d (I64 (around n m)), true⟩ := by
  refine Ok.ret Tryz.func27 (by kernel_rfl) (c := _) rfl Tryz.ntmps27 (by simp) Tryz.results27 (by intro _ h; cases h) fun w0 X hp => ?_
  refine LWp.seq ?_
  refine LWp.rz hT hW ?_
  simp
  refine LWp.seq ?_
  refine LWp.seq ?_
  refine LWp.rz hT hW ?_
  simp
  refine LWp.iff ?_
  simp
  refine ⟨fun h1 => ?_, fun h1 => ?_⟩
  · refine LWp.rz hT hW ?_
    simp
    refine ⟨by omega, ?_⟩
    refine LWp.seq ?_
    refine LWp.rz hT hW ?_
    simp
    refine ⟨hm, ?_⟩
    refine LWp.ret ?_
    simp [around, h1]
  · refine LWp.skip ?_
    simp
    refine LWp.seq ?_
    refine LWp.rz hT hW ?_
    simp
    refine ⟨hm, ?_⟩
    refine LWp.ret ?_
    have : ¬ n < 0 := by omega
    simp [around, this]
theorem At_ok (l : List Int) (i m : Int) (hl : ∀ n ∈ l, -9223372036854775808 ≤ n ∧ n ≤ 9223372036854775807) (hm : m ≠ 0) : Ok Tryz.prog 67 [.sl (l.map I64), I64 i, I64 m] ⟨.d (I64 (atL l i m)), true⟩ := by
  refine Ok.ret Tryz.func67 (by kernel_rfl) (c := _) rfl Tryz.ntmps67 (by simp) Tryz.results67 (by intro _ h; cases h) fun w0 X hp => ?_
  refine LWp.seq ?_
  refine LWp.rz hT hW ?_
  simp
  refine LWp.seq ?_
  refine LWp.seq ?_
  refine LWp.len (t := 0) rfl fun hlen => ?_
  simp at hlen
  refine LWp.rz hT hW ?_
  simp
  refine LWp.iff ?_
  simp
  refine ⟨fun h1 => ?_, fun h1 h2 => ?_⟩
  · refine LWp.seq ?_
    refine LWp.rz hT hW ?_
    simp
    refine LWp.ret ?_
    simp [atL, h1]
  · obtain ⟨k, rfl⟩ := Int.eq_ofNat_of_zero_le h1
    have hi' : k < l.length := by omega
    refine LWp.skip ?_
    simp
    refine LWp.seq ?_
    refine LWp.ro hT hW (fun | 20 => some <| .plain ⟨.d (I64 (around l[k] m)), true⟩ | _ => none) ?_
    simp [h2, hi']
    refine ⟨Around_ok _ _ (hl _ (List.getElem_mem hi')).1 (hl _ (List.getElem_mem hi')).2 hm, ?_⟩
    refine LWp.ret ?_
    simp [atL, hi']
    omega
theorem Less_ok (a b : Nm) : Ok Tryz.prog 91 [a.d, b.d] ⟨.d (.bool (a.less b)), true⟩ := by
  refine Ok.ret Tryz.func91 (by kernel_rfl) (c := _) rfl Tryz.ntmps91 (by simp) Tryz.results91 (by intro _ h; cases h) fun w0 X hp => ?_
  refine LWp.seq ?_
  refine LWp.rz hT hW ?_
  simp
  refine LWp.seq ?_
  refine LWp.rz hT hW ?_
  simp
  refine ⟨by omega, ?_⟩
  refine LWp.ret ?_
  simp [Nm.less]
theorem IsName_ok (n : Nm) : Ok Tryz.prog 152 [n.d] ⟨.d (.bool n.isName), true⟩ := by
  refine Ok.ret Tryz.func152 (by kernel_rfl) (c := _) rfl Tryz.ntmps152 (by simp) Tryz.results152 (by intro _ h; cases h) fun w0 X hp => ?_
  refine LWp.seq ?_
  refine LWp.rz hT hW ?_
  simp
  refine LWp.seq ?_
  refine LWp.rz hT hW ?_
  simp
  refine LWp.ret ?_
  simp [Nm.isName]
theorem In_ok (l : List Str) (s : Str) : Ok Tryz.prog 114 [strsD l, .str s] ⟨.d (.bool (decide (s ∈ l))), true⟩ := by
  refine Ok.ret Tryz.func114 (by kernel_rfl) (c := _) rfl Tryz.ntmps114 (by simp) Tryz.results114 (by intro _ h; cases h) fun w0 X hp => ?_
  refine LWp.len (t := 0) rfl fun hlen => ?_
  simp at hlen
  refine LWp.seq ?_
  refine LWp.rz hT hW ?_
  simp
  refine LWp.seq ?_
  refine LWp.seq ?_
  refine LWp.rz hT hW ?_
  simp
  refine LWp.block ?_
  refine LWp.loopW (ι := Nat) (fun i => mkEnv [(0, .d (strsD l)), (1, .d (.str s)), (5, .d (I64 i))]) (fun i => mkObs []) (fun i => i ≤ l.length ∧ s ∉ l.take i) (fun i => l.length - i) 0 (Weak.to [0, 1, 5] [] (by decide) (by decide) (by simp [hp]) (by simp) (by simp)) (by simp) fun i hi2 => ?_
  refine LWp.seq ?_
  refine LWp.seq ?_
  refine LWp.rz hT hW ?_
  simp
  refine LWp.iff ?_
  simp
  refine ⟨fun h2 => ?_, fun h2 => ?_⟩
  · refine LWp.skip ?_
    simp
    refine LWp.seq ?_
    refine LWp.block ?_
    refine LWp.seq ?_
    refine LWp.rz hT hW ?_
    simp [h2]
    refine LWp.iff ?_
    simp
    refine ⟨fun h4 => ?_, fun h4 => ?_⟩
    · refine LWp.seq ?_
      refine LWp.rz hT hW ?_
      simp
      refine LWp.ret ?_
      simp
      rw [← h4]; exact List.getElem_mem h2
    · refine LWp.skip ?_
      simp
      refine LWp.rz hT hW ?_
      simp
      refine ⟨by omega, ?_⟩
      refine loopQ.mk (i + 1) (Weak.to [0, 1, 5] [] (by decide) (by decide) (by simp [hp]) (by simp) (by simp)) ?_ ?_
      · exact ⟨h2, fun hm => ((mem_take_succ h2).1 hm).elim hi2.2 fun e => h4 e.symm⟩
      · omega
  · refine LWp.exit ?_
    simp
    refine LWp.seq ?_
    refine LWp.rz hT hW ?_
    simp
    refine LWp.ret ?_
    simp
    have e : i = l.length := by omega
    have := hi2.2
    rw [e, List.take_length] at this
    exact this
theorem Find_ok (l : List Ed) (n : Nm) : Ok Tryz.prog 63 [edsD l, n.d] ⟨.d (I64 (findI l n)), true⟩ := by
  refine Ok.ret Tryz.func63 (by kernel_rfl) (c := _) rfl Tryz.ntmps63 (by simp) Tryz.results63 (by intro _ h; cases h) fun w0 X hp => ?_
  refine LWp.len (t := 0) rfl fun hlen => ?_
  simp at hlen
  refine LWp.seq ?_
  refine LWp.rz hT hW ?_
  simp
  refine LWp.seq ?_
  refine LWp.seq ?_
  refine LWp.rz hT hW ?_
  simp
  refine LWp.block ?_
  refine LWp.loopW (ι := Nat) (fun i => mkEnv [(0, .d (edsD l)), (3, .bx 3 0), (5, .d (I64 i))]) (fun i => mkObs [(3, .box false [.d (I64 n.who), .d (I64 n.seq)])]) (fun i => i ≤ l.length ∧ Pre (fun e => decide (e.name = n)) l i) (fun i => l.length - i) 0 (Weak.to [0, 3, 5] [(3, 3)] (by decide) (by decide) (by simp [hp]) (by simp) (by simp)) (⟨Nat.zero_le _, Pre.zero⟩) fun i hi2 => ?_
  refine LWp.seq ?_
  refine LWp.seq ?_
  refine LWp.rz hT hW ?_
  simp
  refine LWp.iff ?_
  simp
  refine ⟨fun h2 => ?_, fun h2 => ?_⟩
  · refine LWp.skip ?_
    simp
    refine LWp.seq ?_
    refine LWp.block ?_
    refine LWp.seq ?_
    refine LWp.regAny hT hW hMixed (lk [[],[],[0,1],[0,1,2],[0,1,2,3],[],[0,1,2,3,4,5]]) (lk [[],[],[],[],[],[],[]]) (lk [[],[],[],[],[],[],[]]) (by kernel_rfl) (fun _ => none) (fun _ => ⟨rfl, fun _ h => h⟩) ?_
    simp [h2]
    refine LWp.iff ?_
    simp
    refine ⟨fun h4 => ?_, fun h4 => ?_⟩
    · refine LWp.seq ?_
      refine LWp.rz hT hW ?_
      simp
      refine LWp.ret ?_
      have := hi2.2.found h2 (by simpa using h4)
      simp [findI, find?, this]
    · refine LWp.skip ?_
      simp
      refine LWp.rz hT hW ?_
      simp
      refine ⟨by omega, ?_⟩
      refine loopQ.mk (i + 1) (Weak.to [0, 3, 5] [(3, 3)] (by decide) (by decide) (by simp [hp]) (by simp) (by simp)) ?_ ?_
      · exact ⟨h2, hi2.2.succ h2 (by simpa using h4)⟩
      · omega
  · refine LWp.exit ?_
    simp
    refine LWp.seq ?_
    refine LWp.rz hT hW ?_
    simp
    refine LWp.ret ?_
    have := hi2.2.none (by omega)
    simp [findI, find?, this]
theorem Needs_ok (l : List Ed) (n : Nm) : Ok Tryz.prog 54 [edsD l, n.d] ⟨.d (nmsD (needsOf l n)), false⟩ := by
  refine Ok.ret Tryz.func54 (by kernel_rfl) (c := _) rfl Tryz.ntmps54 (by simp) Tryz.results54 (by intro _ h; cases h) fun w0 X hp => ?_
  refine LWp.len (t := 0) rfl fun hlen => ?_
  simp at hlen
  refine LWp.seq ?_
  refine LWp.rz hT hW ?_
  simp
  refine LWp.seq ?_
  refine LWp.seq ?_
  refine LWp.rz hT hW ?_
  simp
  refine LWp.block ?_
  refine LWp.loopW (ι := Nat) (fun i => mkEnv [(0, .d (edsD l)), (3, .bx 3 0), (5, .d (I64 i))]) (fun i => mkObs [(3, .box false [.d (I64 n.who), .d (I64 n.seq)])]) (fun i => i ≤ l.length ∧ Pre (fun e => decide (e.name = n)) l i) (fun i => l.length - i) 0 (Weak.to [0, 3, 5] [(3, 3)] (by decide) (by decide) (by simp [hp]) (by simp) (by simp)) (⟨Nat.zero_le _, Pre.zero⟩) fun i hi2 => ?_
  refine LWp.seq ?_
  refine LWp.seq ?_
  refine LWp.rz hT hW ?_
  simp
  refine LWp.iff ?_
  simp
  refine ⟨fun h2 => ?_, fun h2 => ?_⟩
  · refine LWp.skip ?_
    simp
    refine LWp.seq ?_
    refine LWp.block ?_
    refine LWp.seq ?_
    refine LWp.regAny hT hW hMixed (lk [[],[],[0,1],[0,1,2],[0,1,2,3],[],[0,1,2,3,4,5]]) (lk [[],[],[],[],[],[],[]]) (lk [[],[],[],[],[],[],[]]) (by kernel_rfl) (fun _ => none) (fun _ => ⟨rfl, fun _ h => h⟩) ?_
    simp [h2]
    refine LWp.iff ?_
    simp
    refine ⟨fun h4 => ?_, fun h4 => ?_⟩
    · refine LWp.seq ?_
      refine LWp.rz hT hW ?_
      simp [h2]
      refine LWp.ret ?_
      have := hi2.2.found h2 (by simpa using h4)
      simp [needsOf, find?, this, nmsD, h2]
    · refine LWp.skip ?_
      simp
      refine LWp.rz hT hW ?_
      simp
      refine ⟨by omega, ?_⟩
      refine loopQ.mk (i + 1) (Weak.to [0, 3, 5] [(3, 3)] (by decide) (by decide) (by simp [hp]) (by simp) (by simp)) ?_ ?_
      · exact ⟨h2, hi2.2.succ h2 (by simpa using h4)⟩
      · omega
  · refine LWp.exit ?_
    simp
    refine LWp.seq ?_
    refine LWp.rz hT hW ?_
    simp
    refine LWp.ret ?_
    have := hi2.2.none (by omega)
    simp [needsOf, find?, this, nmsD]
end
open Go.Proofs
theorem ready_ok (l o : List Nm) : Ok Tryz.prog 53 [nmsD l, nmsD o] ⟨.d (.bool (l.all fun n => decide (n ∈ o))), true⟩ := by
  refine Ok.ret Tryz.func53 (by kernel_rfl) (c := _) rfl Tryz.ntmps53 (by simp) Tryz.results53 (by intro _ h; cases h) fun w0 X hp => ?_
  refine LWp.len (t := 0) rfl fun hlen => ?_
  simp at hlen
  refine LWp.seq ?_
  refine LWp.rz hT hW ?_
  simp
  refine LWp.seq ?_
  refine LWp.seq ?_
  refine LWp.rz hT hW ?_
  simp
  refine LWp.block ?_
  refine LWp.loopW (ι := Nat) (fun i => mkEnv [(0, .d (nmsD l)), (1, .d (nmsD o)), (5, .d (I64 i))]) (fun i => mkObs []) (fun i => i ≤ l.length ∧ Pre (fun n => !decide (n ∈ o)) l i) (fun i => l.length - i) 0 (Weak.to [0, 1, 5] [] (by decide) (by decide) (by simp [hp]) (by simp) (by simp)) (⟨Nat.zero_le _, Pre.zero⟩) fun i hi2 => ?_
  refine LWp.seq ?_
  refine LWp.seq ?_
  refine LWp.rz hT hW ?_
  simp
  refine LWp.iff ?_
  simp
  refine ⟨fun h2 => ?_, fun h2 => ?_⟩
  · refine LWp.skip ?_
    simp
    refine LWp.seq ?_
    refine LWp.block ?_
    refine LWp.seq ?_
    refine LWp.ro hT hW (fun | 17 => some <| .plain ⟨.d (.bool (decide (l[i] ∈ o))), true⟩ | _ => none) ?_
    simp [h2]
    refine ⟨Has_ok o l[i], ?_⟩
    refine LWp.iff ?_
    simp
    refine ⟨fun h4 => ?_, fun h4 => ?_⟩
    · refine LWp.seq ?_
      refine LWp.rz hT hW ?_
      simp
      refine LWp.ret ?_
      simp
      exact ⟨l[i], List.getElem_mem h2, by simpa using h4⟩
    · refine LWp.skip ?_
      simp
      refine LWp.rz hT hW ?_
      simp
      refine ⟨by omega, ?_⟩
      refine loopQ.mk (i + 1) (Weak.to [0, 1, 5] [] (by decide) (by decide) (by simp [hp]) (by simp) (by simp)) ?_ ?_
      · exact ⟨h2, hi2.2.succ h2 (by simpa using h4)⟩
      · omega
  · refine LWp.exit ?_
    simp
    refine LWp.seq ?_
    refine LWp.rz hT hW ?_
    simp
    refine LWp.ret ?_
    simp
    have := hi2.2.any (by omega)
    simpa using this
theorem Names_ok (l : List Ed) (hl : l.length ≤ 1100000) : Ok Tryz.prog 44 [edsD l] ⟨.d (nmsD (l.map Ed.name)), true⟩ := by
  refine Ok.ret Tryz.func44 (by kernel_rfl) (c := _) rfl Tryz.ntmps44 (by simp) Tryz.results44 (by intro _ h; cases h) fun w0 X hp => ?_
  refine LWp.seq ?_
  refine LWp.rz hT hW ?_
  simp
  refine LWp.seq ?_
  refine LWp.rz hT hW ?_
  simp
  refine LWp.seq ?_
  refine LWp.seq ?_
  refine LWp.rz hT hW ?_
  simp
  refine LWp.block ?_
  refine LWp.loopW (ι := Nat × List Nm) (fun ⟨i, acc⟩ => mkEnv [(0, .d (edsD l)), (3, .ow 3 0 acc.length), (4, .d (I64 i))]) (fun ⟨i, acc⟩ => mkObs [(3, .row false 2 (acc.map Nm.d))]) (fun ⟨i, acc⟩ => i ≤ l.length ∧ acc.length = i ∧ acc = (l.map Ed.name).take i) (fun ⟨i, acc⟩ => l.length - i) (0, []) (Weak.to [0, 3, 4] [(3, 3)] (by decide) (by decide) (by simp [hp]) (by simp) (by simp)) (by simp) fun ⟨i, acc⟩ hi3 => ?_
  refine LWp.seq ?_
  refine LWp.seq ?_
  refine LWp.rz hT hW ?_
  simp
  refine LWp.iff ?_
  simp
  refine ⟨fun h3 => ?_, fun h3 => ?_⟩
  · refine LWp.skip ?_
    simp
    refine LWp.seq ?_
    refine LWp.block ?_
    refine LWp.rz hT hW ?_
    simp [h3]
    refine ⟨by have := hi3.2.1; omega, ?_⟩
    refine LWp.rz hT hW ?_
    simp
    refine ⟨by omega, ?_⟩
    refine loopQ.mk (i + 1, acc ++ [l[i].name]) (Weak.to [0, 3, 4] [(18, 3)] (by decide) (by decide) (by simp [hp]) (by simp) (by simp)) ?_ ?_
    · exact ⟨h3, by simp [hi3.2.1], by rw [map_take_succ h3, ← hi3.2.2]⟩
    · omega
  · refine LWp.exit ?_
    simp
    refine LWp.seq ?_
    refine LWp.rz hT hW ?_
    simp
    refine LWp.ret ?_
    have e : i = l.length := by omega
    have := hi3.2.2
    rw [e] at this
    simp [this]
theorem Touches_ok (e : Ed) (h1 : e.puts.length ≤ 1100000) (h2 : e.drops.length ≤ 1100000) : Ok Tryz.prog 115 [e.d] ⟨.d (strsD (touches e)), true⟩ := by
  refine Ok.ret Tryz.func115 (by kernel_rfl) (c := _) rfl Tryz.ntmps115 (by simp) Tryz.results115 (by intro _ h; cases h) fun w0 X hp => ?_
  refine LWp.seq ?_
  refine LWp.rz hT hW ?_
  simp
  refine LWp.seq ?_
  refine LWp.rz hT hW ?_
  simp
  refine LWp.seq ?_
  refine LWp.seq ?_
  refine LWp.rz hT hW ?_
  simp
  refine LWp.block ?_
  refine LWp.loopW (ι := Nat × List Str) (fun ⟨i, acc⟩ => mkEnv [(1, .bx 1 0), (3, .ow 3 0 acc.length), (4, .d (I64 i))]) (fun ⟨i, acc⟩ => mkObs [(3, .row false 1 (acc.map .str)), (1, .box false ((cellsD e.d).map .d))]) (fun ⟨i, acc⟩ => i ≤ e.puts.length ∧ acc.length = i ∧ acc = (e.puts.map Df.name).take i) (fun ⟨i, acc⟩ => e.puts.length - i) (0, []) (Weak.to [1, 3, 4] [(3, 3), (1, 1)] (by decide) (by decide) (by simp [hp]) (by simp) (by simp)) (by simp) fun ⟨i, acc⟩ hi3 => ?_
  refine LWp.seq ?_
  refine LWp.seq ?_
  refine LWp.rz hT hW ?_
  simp
  refine LWp.iff ?_
  simp
  refine ⟨fun h3 => ?_, fun h3 => ?_⟩
  · refine LWp.skip ?_
    simp
    refine LWp.seq ?_
    refine LWp.block ?_
    refine LWp.rz hT hW ?_
    simp [h3]
    refine ⟨by have := hi3.2.1; omega, ?_⟩
    refine LWp.rz hT hW ?_
    simp
    refine ⟨by omega, ?_⟩
    refine loopQ.mk (i + 1, acc ++ [e.puts[i].name]) (Weak.to [1, 3, 4] [(20, 3), (1, 1)] (by decide) (by decide) (by simp [hp]) (by simp) (by simp)) ?_ ?_
    · exact ⟨h3, by simp [hi3.2.1], by rw [map_take_succ h3, ← hi3.2.2]⟩
    · omega
  · refine LWp.exit ?_
    simp
    refine LWp.seq ?_
    refine LWp.rz hT hW ?_
    simp
    refine ⟨by have := hi3.2.1; omega, ?_⟩
    refine LWp.ret ?_
    have q : i = e.puts.length := by omega
    have := hi3.2.2
    rw [q] at this
    have q2 : ∀ (x y : List DV) (n : Nat), n = x.length + y.length → List.take n (x ++ y) = x ++ y := fun x y n h => List.take_of_length_le (by simp [h])
    simp [this, touches, q2]
    rintro x (⟨a, _, rfl⟩ | ⟨a, _, rfl⟩) <;> simp
theorem SameNames_ok (a b : List Nm) : Ok Tryz.prog 13 [nmsD a, nmsD b] ⟨.d (.bool (decide (a = b))), true⟩ := by
  refine Ok.ret Tryz.func13 (by kernel_rfl) (c := _) rfl Tryz.ntmps13 (by simp) Tryz.results13 (by intro _ h; cases h) fun w0 X hp => ?_
  refine LWp.len (t := 0) rfl fun hlen => ?_
  simp at hlen
  refine LWp.seq ?_
  refine LWp.rz hT hW ?_
  simp
  refine LWp.seq ?_
  refine LWp.seq ?_
  refine LWp.rz hT hW ?_
  simp
  refine LWp.iff ?_
  simp
  refine ⟨fun h1 => ?_, fun h1 => ?_⟩
  · refine LWp.seq ?_
    refine LWp.rz hT hW ?_
    simp
    refine LWp.ret ?_
    simp
    exact fun e => h1 (by rw [e])
  · refine LWp.skip ?_
    simp
    refine LWp.seq ?_
    refine LWp.seq ?_
    refine LWp.rz hT hW ?_
    simp
    refine LWp.block ?_
    refine LWp.loopW (ι := Nat) (fun i => mkEnv [(0, .d (nmsD a)), (1, .d (nmsD b)), (5, .d (I64 i))]) (fun i => mkObs []) (fun i => i ≤ a.length ∧ a.take i = b.take i) (fun i => a.length - i) 0 (Weak.to [0, 1, 5] [] (by decide) (by decide) (by simp [hp]) (by simp) (by simp)) (by simp) fun i hi4 => ?_
    refine LWp.seq ?_
    refine LWp.seq ?_
    refine LWp.rz hT hW ?_
    simp
    refine LWp.iff ?_
    simp
    refine ⟨fun h4 => ?_, fun h4 => ?_⟩
    · refine LWp.skip ?_
      simp
      refine LWp.seq ?_
      refine LWp.block ?_
      refine LWp.seq ?_
      refine LWp.regAny hT hW hMixed (lk [[],[],[0,1],[0,1,2],[],[],[4,5],[4,5,6],[0,1,2,3,4,5,6,7]]) (lk [[],[],[],[],[],[],[],[],[]]) (lk [[],[],[],[],[],[],[],[],[]]) (by kernel_rfl) (fun _ => none) (fun _ => ⟨rfl, fun _ h => h⟩) ?_
      simp [h4, show i < b.length by omega]
      refine LWp.iff ?_
      simp
      refine ⟨fun h6 => ?_, fun h6 => ?_⟩
      · refine LWp.seq ?_
        refine LWp.rz hT hW ?_
        simp
        refine LWp.ret ?_
        simp
        intro e
        subst e
        simp at h6
      · refine LWp.skip ?_
        simp
        refine LWp.rz hT hW ?_
        simp
        refine ⟨by omega, ?_⟩
        refine loopQ.mk (i + 1) (Weak.to [0, 1, 5] [] (by decide) (by decide) (by simp [hp]) (by simp) (by simp)) ?_ ?_
        · exact ⟨h4, take_eq_succ hi4.2 h4 (by omega) (by simpa using h6)⟩
        · omega
    · refine LWp.exit ?_
      simp
      refine LWp.seq ?_
      refine LWp.rz hT hW ?_
      simp
      refine LWp.ret ?_
      simp
      have e : i = a.length := by omega
      have := hi4.2
      rw [e, List.take_length] at this
      have h1' : a.length = b.length := by omega
      rw [this, h1', List.take_length]
open Go.Proofs
theorem Sort_ok (l : List Nm) (hl : l.length ≤ 1100000) : Ok Tryz.prog 47 [nmsD l] ⟨.d (nmsD (sortN l)), true⟩ := by
  refine Ok.ret Tryz.func47 (by kernel_rfl) (c := _) rfl Tryz.ntmps47 (by simp) Tryz.results47 (by intro _ h; cases h) fun w0 X hp => ?_
  refine LWp.seq ?_
  refine LWp.rz hT hW ?_
  simp
  refine LWp.seq ?_
  refine LWp.rz hT hW ?_
  simp
  refine LWp.seq ?_
  refine LWp.seq ?_
  refine LWp.rz hT hW ?_
  simp
  refine LWp.block ?_
  refine LWp.loopW (ι := Nat × List Nm) (fun ⟨i, acc⟩ => mkEnv [(0, .d (nmsD l)), (3, .ow 3 0 acc.length), (4, .d (I64 i))]) (fun ⟨i, acc⟩ => mkObs [(3, .row false 2 (acc.map Nm.d))]) (fun ⟨i, acc⟩ => i ≤ l.length ∧ acc.length ≤ i ∧ acc = sortN (l.take i)) (fun ⟨i, acc⟩ => l.length - i) (0, []) (Weak.to [0, 3, 4] [(3, 3)] (by decide) (by decide) (by simp [hp]) (by simp) (by simp)) (by simp [sortN]) fun ⟨i, acc⟩ hi3 => ?_
  refine LWp.seq ?_
  refine LWp.seq ?_
  refine LWp.rz hT hW ?_
  simp
  refine LWp.iff ?_
  simp
  refine ⟨fun h3 => ?_, fun h3 => ?_⟩
  · refine LWp.skip ?_
    simp
    refine LWp.seq ?_
    refine LWp.block ?_
    refine LWp.seq ?_
    refine LWp.seq ?_
    refine LWp.ro hT hW (fun | 17 => some <| .plain ⟨.d (.bool (decide (l[i] ∈ acc))), true⟩ | _ => none) ?_
    simp [h3]
    refine ⟨Has_ok acc l[i], ?_⟩
    refine LWp.iff ?_
    simp
    refine ⟨fun h5 => ?_, fun h5 => ?_⟩
    · refine LWp.exit ?_
      simp
      refine LWp.rz hT hW ?_
      simp
      refine ⟨by omega, ?_⟩
      refine loopQ.mk (i + 1, acc) (Weak.to [0, 3, 4] [(3, 3)] (by decide) (by decide) (by simp [hp]) (by simp) (by simp)) ?_ ?_
      · exact ⟨h3, by have := hi3.2.1; simp; omega, by rw [sortN_succ h3, ← hi3.2.2]; simp [sortStep, h5]⟩
      · omega
    · refine LWp.skip ?_
      simp
      refine LWp.seq ?_
      refine LWp.rz hT hW ?_
      simp
      refine LWp.seq ?_
      refine LWp.block ?_
      refine LWp.loopW (ι := Nat) (fun k => mkEnv [(0, .d (nmsD l)), (3, .ow 3 0 acc.length), (4, .d (I64 i)), (5, .d (I64 k))]) (fun k => mkObs [(3, .row false 2 (acc.map Nm.d))]) (fun k => k ≤ acc.length ∧ rpos (fun y => l[i].less y) acc k = rpos (fun y => l[i].less y) acc acc.length) (fun k => k) acc.length (Weak.to [0, 3, 4, 5] [(3, 3)] (by decide) (by decide) (by simp [hp]) (by simp) (by simp)) (by simp) fun k hi7 => ?_
      refine LWp.seq ?_
      refine LWp.seq ?_
      refine LWp.regAny hT hW hMixed (lk [[],[0],[0,1],[0,1,2],[0,1,2],[0,1,2,3,4],[0,1,2,3,4,5],[0,1,2],[0,1,2],[0,1,2,8],[0,1,2,7,8,9],[0,1,2,7,8,9,10],[0,1,2,3,4,5,6,7,8,9,10,11],[0,1,2,3,4,5,6,7,8,9,10,11,12]]) (lk [[],[],[],[],[],[],[],[],[],[],[],[],[],[]]) (lk [[],[],[],[],[],[],[],[],[],[],[],[],[32],[]]) (by kernel_rfl) (fun | 32 => some <| .plain ⟨.d (.bool (l[i].less (acc.getD (k - 1) default))), true⟩ | _ => none) (by intro d; first | exact ⟨rfl, fun _ h => h⟩ | (split <;> exact ⟨rfl, fun _ h => h⟩)) ?_
      simp [h3]
      refine ⟨⟨⟨by omega, fun hk => ?_⟩, fun hk => ?_⟩, ?_⟩
      · have hk' : k - 1 < acc.length := by omega
        simp [hk']
      · have hk' : k - 1 < acc.length := by omega
        simpa [hk'] using Less_ok l[i] acc[k - 1]
      refine LWp.iff ?_
      simp
      refine ⟨fun h7 h7' => ?_, fun h7 => ?_⟩
      · obtain ⟨k, rfl⟩ : ∃ j, k = j + 1 := ⟨k - 1, by omega⟩
        refine LWp.skip ?_
        simp
        refine LWp.block ?_
        refine LWp.rz hT hW ?_
        simp
        refine ⟨by omega, ?_⟩
        refine loopQ.mk k (Weak.to [0, 3, 4, 5] [(3, 3)] (by decide) (by decide) (by simp [hp]) (by simp) (by simp)) ?_ ?_
        · have hk : k < acc.length := hi7.1
          refine ⟨by omega, ?_⟩
          rw [← hi7.2, rpos_go hk (by simpa [hk] using h7')]
        · omega
      · refine LWp.exit ?_
        simp
        refine LWp.regAny hT hW hMixed (lk [[],[],[],[1,2],[0,1,2,3],[],[],[5,6],[5,6,7],[5,6,7,8],[0,1,2,3,4,5,6,7,8,9],[],[],[11,12],[0,1,2,3,4,5,6,7,8,9,10,11,12,13],[0,1,2,3,4,5,6,7,8,9,10,11,12,13,14]]) (lk [[45],[36,45],[36,45],[36,45],[45],[36,40],[36,40],[36,40],[36,40],[36,40],[],[36,40,45,46],[36,40,45,46],[36,40,45,46],[],[]]) (lk [[36],[],[],[],[36,40],[],[],[],[],[45],[40,46],[],[],[],[46,50],[]]) (by kernel_rfl) (fun _ => none) (fun _ => ⟨rfl, fun _ h => h⟩) ?_
        simp [h3]
        have hb := hi3.2.1
        have hc := hi7.1
        refine ⟨by omega, ?_⟩
        refine LWp.rz hT hW ?_
        simp
        refine ⟨by omega, ?_⟩
        refine loopQ.mk (i + 1, insAt k l[i] acc) (Weak.to [0, 3, 4] [(50, 3)] (by decide) (by decide) (by simp [hp]) (by simp [insAt_length, Nat.min_eq_left hi7.1, show k + 1 + (acc.length - k) = acc.length + 1 by have := hi7.1; omega]) (by simp [Nat.min_eq_left hi7.1, row_ins_nm hi7.1])) ?_ ?_
        · refine ⟨h3, by have := hi3.2.1; simp [insAt_length]; omega, ?_⟩
          rw [sortN_succ h3, ← hi3.2.2]
          have hk : rpos (fun y => l[i].less y) acc k = k := rpos_stop fun j hj hjl => by
            subst hj
            simpa [hjl] using h7 (by omega)
          simp only [sortStep, if_neg h5, ← hi7.2, hk]
        · omega
  · refine LWp.exit ?_
    simp
    refine LWp.seq ?_
    refine LWp.rz hT hW ?_
    simp
    refine LWp.ret ?_
    have q : i = l.length := by omega
    have := hi3.2.2
    rw [q, List.take_length] at this
    simp [← this]
end Go.Eng
namespace Go.Eng
theorem filter_lt {α : Type} {p q : α → Bool} {m : α} : ∀ {U : List α}, (∀ x, q x = true → p x = true) → m ∈ U → p m = true → q m = false → (U.filter q).length < (U.filter p).length
  | [], _, h, _, _ => by cases h
  | x :: U, hpq, h, hp, hq => by
    have hle : ∀ V : List α, (V.filter q).length ≤ (V.filter p).length := by
      intro V
      induction V with
      | nil => exact Nat.le_refl _
      | cons y V ih =>
        simp only [List.filter_cons]
        cases e1 : q y with
        | true => rw [hpq y e1]; simp; exact ih
        | false => cases p y <;> simp <;> omega
    simp only [List.filter_cons]
    by_cases e : x = m
    · subst e
      rw [hp, hq]
      simp
      have := hle U; omega
    · have hm : m ∈ U := by rcases List.mem_cons.1 h with h | h; exact absurd h.symm e; exact h
      have := filter_lt hpq hm hp hq
      cases e1 : q x with
      | true => rw [hpq x e1]; simp; exact this
      | false => cases p x <;> simp <;> omega
theorem filter_le {α : Type} {p q : α → Bool} : ∀ {U : List α}, (∀ x, q x = true → p x = true) → (U.filter q).length ≤ (U.filter p).length
  | [], _ => Nat.le_refl _
  | y :: V, hpq => by
    have ih := filter_le (U := V) hpq
    simp only [List.filter_cons]
    cases e1 : q y with
    | true => rw [hpq y e1]; simp; exact ih
    | false => cases p y <;> simp <;> omega
def allNeeds (l : List Ed) : List Nm := l.flatMap Ed.needs
def mu (l : List Ed) (M : List Nm) : Nat := ((allNeeds l).filter fun x => decide (x ∉ M)).length
theorem needs_all {l : List Ed} {n m : Nm} (h : m ∈ needsOf l n) : m ∈ allNeeds l := by
  unfold needsOf at h
  split at h
  · rename_i i hi
    unfold find? at hi
    obtain ⟨hi, _, _⟩ := List.findIdx?_eq_some_iff_getElem.1 hi
    simp [List.getD_eq_getElem?_getD, hi] at h
    exact List.mem_flatMap.2 ⟨_, List.getElem_mem hi, h⟩
  · cases h
theorem mu_lt {l : List Ed} {M : List Nm} {m : Nm} (h : m ∈ allNeeds l) (hm : m ∉ M) : mu l (M ++ [m]) < mu l M :=
  filter_lt (fun x hx => by simp at hx ⊢; exact hx.1) h (by simpa using hm) (by simp)
theorem mu_le {l : List Ed} {M M' : List Nm} (h : ∀ x ∈ M, x ∈ M') : mu l M' ≤ mu l M :=
  filter_le fun x hx => by simp at hx ⊢; exact fun hm => hx (h x hm)
def climbF (l : List Ed) : Nat → Nm → List Nm → List Nm
  | 0, _, M => M
  | f + 1, n, M => (needsOf l n).foldl (fun M m => if m ∈ M then M else climbF l f m (M ++ [m])) M
def climbS (l : List Ed) (f : Nat) (M : List Nm) (m : Nm) : List Nm := if m ∈ M then M else climbF l f m (M ++ [m])
theorem climbF_succ (l : List Ed) (f : Nat) (n : Nm) (M : List Nm) : climbF l (f + 1) n M = (needsOf l n).foldl (climbS l f) M := rfl
inductive Reach (l : List Ed) : Nm → Nm → Prop
  | one {n m : Nm} (h : m ∈ needsOf l n) : Reach l n m
  | next {n m k : Nm} (h : m ∈ needsOf l n) (r : Reach l m k) : Reach l n k
theorem Reach.snoc {l : List Ed} {n m k : Nm} (r : Reach l n m) (h : k ∈ needsOf l m) : Reach l n k := by
  induction r with
  | one h1 => exact .next h1 (.one h)
  | next h1 _ ih => exact .next h1 (ih h)
theorem Reach.trans {l : List Ed} {n m k : Nm} (r : Reach l n m) (s : Reach l m k) : Reach l n k := by
  induction r with
  | one h1 => exact .next h1 s
  | next h1 _ ih => exact .next h1 (ih s)
theorem climb_spec (l : List Ed) : ∀ (f : Nat) (n : Nm) (M : List Nm), mu l M < f →
    (∀ x ∈ M, x ∈ climbF l f n M) ∧ (∀ x ∈ climbF l f n M, x ∈ M ∨ Reach l n x) ∧ (∀ x ∈ needsOf l n, x ∈ climbF l f n M) ∧ ∀ x ∈ climbF l f n M, x ∉ M → ∀ y ∈ needsOf l x, y ∈ climbF l f n M := by
  intro f
  induction f with
  | zero => intro n M h; omega
  | succ f ih =>
    intro n M hM
    rw [climbF_succ]
    have key : ∀ (L : List Nm), (∀ m ∈ L, m ∈ allNeeds l) → ∀ M, mu l M < f + 1 →
        (∀ x ∈ M, x ∈ L.foldl (climbS l f) M) ∧ (∀ x ∈ L.foldl (climbS l f) M, x ∈ M ∨ ∃ m ∈ L, x = m ∨ Reach l m x) ∧ (∀ x ∈ L, x ∈ L.foldl (climbS l f) M) ∧ ∀ x ∈ L.foldl (climbS l f) M, x ∉ M → ∀ y ∈ needsOf l x, y ∈ L.foldl (climbS l f) M := by
      intro L
      induction L with
      | nil => intro _ M _; exact ⟨fun x hx => hx, fun x hx => .inl hx, fun x hx => (by cases hx), fun x hx hn => absurd hx hn⟩
      | cons m L ihL =>
        intro hL M hM
        have hm : m ∈ allNeeds l := hL m (by simp)
        have hL' : ∀ x ∈ L, x ∈ allNeeds l := fun x hx => hL x (by simp [hx])
        simp only [List.foldl_cons]
        unfold climbS
        by_cases hin : m ∈ M
        · rw [if_pos hin]
          obtain ⟨h1, h2, h3, h4⟩ := ihL hL' M hM
          refine ⟨h1, fun x hx => (h2 x hx).imp id fun ⟨k, hk, hr⟩ => ⟨k, by simp [hk], hr⟩, fun x hx => ?_, h4⟩
          rcases List.mem_cons.1 hx with rfl | hx
          · exact h1 _ hin
          · exact h3 x hx
        · rw [if_neg hin]
          have hlt := mu_lt hm hin
          obtain ⟨g1, g2, g3, g4⟩ := ih m (M ++ [m]) (by omega)
          have hMM : ∀ x ∈ M, x ∈ climbF l f m (M ++ [m]) := fun x hx => g1 x (by simp [hx])
          obtain ⟨h1, h2, h3, h4⟩ := ihL hL' (climbF l f m (M ++ [m])) (Nat.lt_of_le_of_lt (mu_le hMM) hM)
          refine ⟨fun x hx => h1 x (hMM x hx), fun x hx => ?_, fun x hx => ?_, fun x hx hxM y hy => ?_⟩
          · rcases h2 x hx with h | ⟨k, hk, hr⟩
            · rcases g2 x h with h | h
              · rcases List.mem_append.1 h with h | h
                · exact .inl h
                · simp at h; exact .inr ⟨m, by simp, .inl h⟩
              · exact .inr ⟨m, by simp, .inr h⟩
            · exact .inr ⟨k, by simp [hk], hr⟩
          · rcases List.mem_cons.1 hx with rfl | hx
            · exact h1 _ (g1 _ (by simp))
            · exact h3 x hx
          · by_cases hx2 : x ∈ climbF l f m (M ++ [m])
            · by_cases hxm : x = m
              · subst hxm; exact h1 y (g3 y hy)
              · exact h1 y (g4 x hx2 (by simp [hxM, hxm]) y hy)
            · exact h4 x hx hx2 y hy
    obtain ⟨h1, h2, h3, h4⟩ := key (needsOf l n) (fun m hm => needs_all hm) M hM
    refine ⟨h1, fun x hx => (h2 x hx).imp id fun ⟨m, hm, hr⟩ => ?_, h3, h4⟩
    rcases hr with rfl | hr
    · exact .one hm
    · exact .next hm hr
theorem climbS_sub {l : List Ed} {f : Nat} {M : List Nm} {m : Nm} (hm : m ∈ allNeeds l) (hM : mu l M < f + 1) : ∀ x ∈ M, x ∈ climbS l f M m := by
  intro x hx
  unfold climbS
  by_cases h : m ∈ M
  · rw [if_pos h]; exact hx
  · rw [if_neg h]
    have := mu_lt hm h
    exact (climb_spec l f m (M ++ [m]) (by omega)).1 x (by simp [hx])
theorem climbS_nodup (l : List Ed) : ∀ (f : Nat) (n : Nm) (M : List Nm), M.Nodup → (climbF l f n M).Nodup := by
  intro f
  induction f with
  | zero => intro n M h; exact h
  | succ f ih =>
    intro n M h
    rw [climbF_succ]
    generalize needsOf l n = L
    induction L generalizing M with
    | nil => exact h
    | cons m L ihL =>
      simp only [List.foldl_cons]
      refine ihL _ ?_
      unfold climbS
      split
      · exact h
      · rename_i hn
        refine ih _ _ (List.nodup_append.2 ⟨h, by simp, ?_⟩)
        intro a ha b hb
        simp at hb; subst hb
        intro e; subst e; exact hn ha
def aboveL (l : List Ed) (n : Nm) : List Nm := climbF l (mu l [] + 1) n []
theorem mem_aboveL {l : List Ed} {n x : Nm} : x ∈ aboveL l n ↔ Reach l n x := by
  obtain ⟨_, h2, h3, h4⟩ := climb_spec l (mu l [] + 1) n [] (Nat.lt_succ_self _)
  constructor
  · intro h
    rcases h2 x h with h | h
    · cases h
    · exact h
  · intro h
    have key : ∀ a b, Reach l a b → (∀ y ∈ needsOf l a, y ∈ aboveL l n) → b ∈ aboveL l n := by
      intro a b hr
      induction hr with
      | one h => intro hc; exact hc _ h
      | next h _ ih => intro hc; exact ih fun y hy => h4 _ (hc _ h) (by simp) y hy
    exact key n x h h3
theorem aboveL_nodup (l : List Ed) (n : Nm) : (aboveL l n).Nodup := climbS_nodup _ _ _ _ (by simp)
end Go.Eng
namespace Go.Eng
open Go.Proofs
attribute [local simp] runL stepL evalG evalOp opLV constLV putEnv dstOk upd upds Res.plain Res.cond Res.fail evalBin evalUn seqQ blockQ argsEnv lookL lookH RetIs memless freshL evalPick evalMin bval bok evalLen evalIn strip whenC guardOps guardC slotsOf
  runM foldS stepI stepM maskE wrIn lk renO lookN evalCall evalCallee optAll resLV resObj retLV retObj retsLV retsObj evalLoad evalIndexAddr evalField solid cellsD_agg cellsD_int cellsD_bool cellsD_str cellsD_sl cellsD_ro cellsD_fn cellsL_agg cellsL_dagg cellsL_int cellsL_bool cellsL_str cellsL_sl cellsL_fn cellsL_ow cellsL_bx cellsL_lfn cellsL_nl takeL takeD mkAgg allD eqD eqDs kindsAre kindIs LObj.live TK.isNone TK.agg TK.isBool TK.isStr TK.isStruct Op.operands Call.operands
  evalBuildSlice evalAppend elemsOf evalStore evalBuild fillL lookupF putL evalSlice bound evalConv elemsS freezes frozen loadR
  mkEnv_at mkObs_at close_d close_agg close_ow close_bx close_fn close_nl touch_d touch_agg touch_ow touch_bx touch_fn touch_nl ren_d ren_agg ren_bx ren_rp ren_ow ren_fn ren_nl ren_junk retQ_ret retQ2_ret condQ_bool Nm.d Df.d Ed.d nmsD dfsD strsD edsD retC_ret nm_eq df_eq take_map_len take_map_app
  nm_t nm_d nm_td df_t df_d df_td str_t str_d str_td ed_t ed_d ed_td
  evalAppendIn evalBuildSliceC evalCopyC shortL evalApart evalAppendC evalAppendZ evalAppendG evalCapC isOc TK.isInt close_oc touch_oc ren_oc cellsL_oc evalCut evalClear evalCopy evalMake evalWrap evalCap evalNil isNilC lenL isInp gorc gorc2
  mapOf findD keyEq keyOk evalMakeMap evalRange zeroD zeroDV argsG shutG outN lenv retG0_ret retG0_normal retG1_ret retGR_ret renO close_mp touch_mp ren_mp optAll_d optAll_d' touch_ds cellsL_mp cellsD_mp cellsL_dmp
  evalMapSet evalPtr TK.isPtr evalToArr firstL retN_ret retsQ rvarL close_bm touch_bm ren_bm cellsD_bm cellsL_bm cellsL_lbm
def idxI {α : Type} (p : α → Bool) (l : List α) : Int := match l.findIdx? p with | some i => i | none => -1
theorem idxI_some {α : Type} {p : α → Bool} {l : List α} {i : Nat} (h : l.findIdx? p = some i) : idxI p l = i := by simp [idxI, h]
theorem idxI_none {α : Type} {p : α → Bool} {l : List α} (h : l.findIdx? p = none) : idxI p l = -1 := by simp [idxI, h]
theorem idxI_nonneg {α : Type} {p : α → Bool} {l : List α} : decide (0 ≤ idxI p l) = l.any p := by
  unfold idxI
  split
  · rename_i i hi
    obtain ⟨h1, h2, _⟩ := List.findIdx?_eq_some_iff_getElem.1 hi
    have : l.any p = true := any_at h1 h2
    rw [this]; simp
  · rename_i hi
    rw [List.findIdx?_eq_none_iff] at hi
    have : l.any p = false := by rw [List.any_eq_false]; intro x hx; rw [hi x hx]; simp
    rw [this]; simp
theorem idxI_nonneg' {α : Type} {p : α → Bool} {l : List α} : 0 ≤ idxI p l ↔ l.any p = true := by
  rw [← idxI_nonneg]; simp
theorem IndexEd_ok (l : List Ed) (p : Ed → Bool) (g : FuncId) (cs : List DV) (hg : ∀ x ∈ l, Ok Tryz.prog g (x.d :: cs) ⟨.d (.bool (p x)), true⟩) : Ok Tryz.prog 108 [edsD l, .fn g cs] ⟨.d (I64 (idxI p l)), true⟩ := by
  refine Ok.ret Tryz.func108 (by kernel_rfl) (c := _) rfl Tryz.ntmps108 (by simp) Tryz.results108 (by intro _ h; cases h) fun w0 X hp => ?_
  refine LWp.len (t := 0) rfl fun hlen => ?_
  simp at hlen
  refine LWp.seq ?_
  refine LWp.rz hT hW ?_
  simp
  refine LWp.seq ?_
  refine LWp.seq ?_
  refine LWp.rz hT hW ?_
  simp
  refine LWp.block ?_
  refine LWp.loopW (ι := Nat) (fun i => mkEnv [(0, .d (edsD l)), (1, .d (.fn g cs)), (7, .d (I64 l.length)), (8, .d (I64 i))]) (fun i => mkObs []) (fun i => i ≤ l.length ∧ Pre p l i) (fun i => l.length - i) 0 (Weak.to [0, 1, 7, 8] [] (by decide) (by decide) (by simp [hp]) (by simp) (by simp)) (⟨Nat.zero_le _, Pre.zero⟩) fun i hi2 => ?_
  refine LWp.seq ?_
  refine LWp.rz hT hW ?_
  simp
  refine LWp.seq ?_
  refine LWp.iff ?_
  simp
  refine ⟨fun h2 => ?_, fun h2 => ?_⟩
  · refine LWp.skip ?_
    simp
    refine LWp.seq ?_
    refine LWp.block ?_
    refine LWp.seq ?_
    refine LWp.rz hT hW ?_
    simp
    refine LWp.seq ?_
    refine LWp.ro hT hW (fun | 16 => some <| .plain ⟨.d (.bool (p l[i])), true⟩ | _ => none) ?_
    simp [h2]
    refine ⟨hg l[i] (List.getElem_mem h2), ?_⟩
    refine LWp.iff ?_
    simp
    refine ⟨fun h4 => ?_, fun h4 => ?_⟩
    · refine LWp.seq ?_
      refine LWp.rz hT hW ?_
      simp
      refine LWp.ret ?_
      simp [idxI_some (hi2.2.found h2 h4)]
    · refine LWp.skip ?_
      simp
      refine LWp.rz hT hW ?_
      simp
      refine ⟨by omega, ?_⟩
      refine loopQ.mk (i + 1) (Weak.to [0, 1, 7, 8] [] (by decide) (by decide) (by simp [hp]) (by simp) (by simp)) ?_ ?_
      · exact ⟨h2, hi2.2.succ h2 h4⟩
      · omega
  · refine LWp.exit ?_
    simp
    refine LWp.seq ?_
    refine LWp.rz hT hW ?_
    simp
    refine LWp.ret ?_
    simp [idxI_none (hi2.2.none (by omega))]
theorem IndexNm_ok (l : List Nm) (p : Nm → Bool) (g : FuncId) (cs : List DV) (hg : ∀ x ∈ l, Ok Tryz.prog g (x.d :: cs) ⟨.d (.bool (p x)), true⟩) : Ok Tryz.prog 98 [nmsD l, .fn g cs] ⟨.d (I64 (idxI p l)), true⟩ := by
  refine Ok.ret Tryz.func98 (by kernel_rfl) (c := _) rfl Tryz.ntmps98 (by simp) Tryz.results98 (by intro _ h; cases h) fun w0 X hp => ?_
  refine LWp.len (t := 0) rfl fun hlen => ?_
  simp at hlen
  refine LWp.seq ?_
  refine LWp.rz hT hW ?_
  simp
  refine LWp.seq ?_
  refine LWp.seq ?_
  refine LWp.rz hT hW ?_
  simp
  refine LWp.block ?_
  refine LWp.loopW (ι := Nat) (fun i => mkEnv [(0, .d (nmsD l)), (1, .d (.fn g cs)), (7, .d (I64 l.length)), (8, .d (I64 i))]) (fun i => mkObs []) (fun i => i ≤ l.length ∧ Pre p l i) (fun i => l.length - i) 0 (Weak.to [0, 1, 7, 8] [] (by decide) (by decide) (by simp [hp]) (by simp) (by simp)) (⟨Nat.zero_le _, Pre.zero⟩) fun i hi2 => ?_
  refine LWp.seq ?_
  refine LWp.rz hT hW ?_
  simp
  refine LWp.seq ?_
  refine LWp.iff ?_
  simp
  refine ⟨fun h2 => ?_, fun h2 => ?_⟩
  · refine LWp.skip ?_
    simp
    refine LWp.seq ?_
    refine LWp.block ?_
    refine LWp.seq ?_
    refine LWp.rz hT hW ?_
    simp
    refine LWp.seq ?_
    refine LWp.ro hT hW (fun | 16 => some <| .plain ⟨.d (.bool (p l[i])), true⟩ | _ => none) ?_
    simp [h2]
    refine ⟨hg l[i] (List.getElem_mem h2), ?_⟩
    refine LWp.iff ?_
    simp
    refine ⟨fun h4 => ?_, fun h4 => ?_⟩
    · refine LWp.seq ?_
      refine LWp.rz hT hW ?_
      simp
      refine LWp.ret ?_
      simp [idxI_some (hi2.2.found h2 h4)]
    · refine LWp.skip ?_
      simp
      refine LWp.rz hT hW ?_
      simp
      refine ⟨by omega, ?_⟩
      refine loopQ.mk (i + 1) (Weak.to [0, 1, 7, 8] [] (by decide) (by decide) (by simp [hp]) (by simp) (by simp)) ?_ ?_
      · exact ⟨h2, hi2.2.succ h2 h4⟩
      · omega
  · refine LWp.exit ?_
    simp
    refine LWp.seq ?_
    refine LWp.rz hT hW ?_
    simp
    refine LWp.ret ?_
    simp [idxI_none (hi2.2.none (by omega))]
theorem AnyNm_ok (l : List Nm) (p : Nm → Bool) (g : FuncId) (cs : List DV) (hg : ∀ x ∈ l, Ok Tryz.prog g (x.d :: cs) ⟨.d (.bool (p x)), true⟩) : Ok Tryz.prog 93 [nmsD l, .fn g cs] ⟨.d (.bool (l.any p)), true⟩ := by
  refine Ok.ret Tryz.func93 (by kernel_rfl) (c := _) rfl Tryz.ntmps93 (by simp) Tryz.results93 (by intro _ h; cases h) fun w0 X hp => ?_
  refine LWp.seq ?_
  refine LWp.rz hT hW ?_
  simp
  refine LWp.seq ?_
  refine LWp.ro hT hW (fun | 7 => some <| .plain ⟨.d (I64 (idxI p l)), true⟩ | _ => none) ?_
  simp
  refine ⟨IndexNm_ok l p g cs hg, ?_⟩
  refine LWp.ret ?_
  simp [← idxI_nonneg]
theorem IndexOfNm_ok (l : List Nm) (n : Nm) : Ok Tryz.prog 151 [nmsD l, n.d] ⟨.d (I64 (idxI (fun x => decide (n = x)) l)), true⟩ := by
  refine Ok.ret Tryz.func151 (by kernel_rfl) (c := _) rfl Tryz.ntmps151 (by simp) Tryz.results151 (by intro _ h; cases h) fun w0 X hp => ?_
  refine LWp.len (t := 0) rfl fun hlen => ?_
  simp at hlen
  refine LWp.seq ?_
  refine LWp.rz hT hW ?_
  simp
  refine LWp.seq ?_
  refine LWp.seq ?_
  refine LWp.rz hT hW ?_
  simp
  refine LWp.block ?_
  refine LWp.loopW (ι := Nat) (fun i => mkEnv [(0, .d (nmsD l)), (3, .bx 3 0), (7, .d (I64 l.length)), (8, .d (I64 i))]) (fun i => mkObs [(3, .box false [.d (I64 n.who), .d (I64 n.seq)])]) (fun i => i ≤ l.length ∧ Pre (fun x => decide (n = x)) l i) (fun i => l.length - i) 0 (Weak.to [0, 3, 7, 8] [(3, 3)] (by decide) (by decide) (by simp [hp]) (by simp) (by simp)) (⟨Nat.zero_le _, Pre.zero⟩) fun i hi2 => ?_
  refine LWp.seq ?_
  refine LWp.rz hT hW ?_
  simp
  refine LWp.seq ?_
  refine LWp.iff ?_
  simp
  refine ⟨fun h2 => ?_, fun h2 => ?_⟩
  · refine LWp.skip ?_
    simp
    refine LWp.seq ?_
    refine LWp.block ?_
    refine LWp.seq ?_
    refine LWp.rz hT hW ?_
    simp
    refine LWp.seq ?_
    refine LWp.regAny hT hW hMixed (lk [[],[],[],[1,2],[1,2,3],[0,1,2,3,4]]) (lk [[],[],[],[],[],[]]) (lk [[],[],[],[],[],[]]) (by kernel_rfl) (fun _ => none) (fun _ => ⟨rfl, fun _ h => h⟩) ?_
    simp [h2]
    refine LWp.iff ?_
    simp
    refine ⟨fun h4 => ?_, fun h4 => ?_⟩
    · refine LWp.seq ?_
      refine LWp.rz hT hW ?_
      simp
      refine LWp.ret ?_
      simp [idxI_some (hi2.2.found h2 (by simpa using h4))]
    · refine LWp.skip ?_
      simp
      refine LWp.rz hT hW ?_
      simp
      refine ⟨by omega, ?_⟩
      refine loopQ.mk (i + 1) (Weak.to [0, 3, 7, 8] [(3, 3)] (by decide) (by decide) (by simp [hp]) (by simp) (by simp)) ?_ ?_
      · exact ⟨h2, hi2.2.succ h2 (by simpa using h4)⟩
      · omega
  · refine LWp.exit ?_
    simp
    refine LWp.seq ?_
    refine LWp.rz hT hW ?_
    simp
    refine LWp.ret ?_
    simp [idxI_none (hi2.2.none (by omega))]
theorem InNm_ok (l : List Nm) (n : Nm) : Ok Tryz.prog 97 [nmsD l, n.d] ⟨.d (.bool (decide (n ∈ l))), true⟩ := by
  refine Ok.ret Tryz.func97 (by kernel_rfl) (c := _) rfl Tryz.ntmps97 (by simp) Tryz.results97 (by intro _ h; cases h) fun w0 X hp => ?_
  refine LWp.seq ?_
  refine LWp.rz hT hW ?_
  simp
  refine LWp.seq ?_
  refine LWp.ro hT hW (fun | 7 => some <| .plain ⟨.d (I64 (idxI (fun x => decide (n = x)) l)), true⟩ | _ => none) ?_
  simp
  refine ⟨IndexOfNm_ok l n, ?_⟩
  refine LWp.ret ?_
  simp [idxI_nonneg']
theorem FindF_ok (e : Ed) (n : Nm) : Ok Tryz.prog 109 [e.d, .ro [I64 n.who, I64 n.seq]] ⟨.d (.bool (decide (e.name = n))), true⟩ := by
  refine Ok.ret Tryz.func109 (by kernel_rfl) (c := _) rfl Tryz.ntmps109 (by simp) Tryz.results109 (by intro _ h; cases h) fun w0 X hp => ?_
  refine LWp.seq ?_
  refine LWp.rz hT hW ?_
  simp
  refine LWp.seq ?_
  refine LWp.rz hT hW ?_
  simp
  refine LWp.ret ?_
  simp
theorem EFind_ok (l : List Ed) (n : Nm) : Ok Tryz.prog 56 [edsD l, n.d] ⟨.d (I64 (findI l n)), true⟩ := by
  refine Ok.ret Tryz.func56 (by kernel_rfl) (c := _) rfl Tryz.ntmps56 (by simp) Tryz.results56 (by intro _ h; cases h) fun w0 X hp => ?_
  refine LWp.seq ?_
  refine LWp.rz hT hW ?_
  simp
  refine LWp.seq ?_
  refine LWp.ro hT hW (fun | 7 => some <| .plain ⟨.d (I64 (findI l n)), true⟩ | _ => none) ?_
  simp
  refine ⟨IndexEd_ok l (fun e => decide (e.name = n)) _ _ fun e _ => FindF_ok e n, ?_⟩
  refine LWp.ret ?_
  simp
open Go.Proofs
theorem findD_nm {m : Nm} : ∀ {M : List Nm} {i : Nat}, findD (.agg [.int .i64 m.who, .int .i64 m.seq]) (List.map Nm.d M) i = some ((M.findIdx? fun x => decide (m = x)).map (· + i))
  | [], i => by simp [findD]
  | x :: M, i => by
    have ih := findD_nm (m := m) (M := M) (i := i + 1)
    simp only [List.map_cons, findD]
    have e : keyEq (.agg [.int .i64 m.who, .int .i64 m.seq]) (Nm.d x) = some (decide (m = x)) := by
      cases m; cases x; simp [keyEq, Nm.d, eqDs, eqD]
    rw [e, List.findIdx?_cons]
    cases q : decide (m = x) with
    | true => simp
    | false =>
      simp only [ih, Bool.false_eq_true, if_false]
      cases (M.findIdx? fun x => decide (m = x)) with
      | none => rfl
      | some j => simp; omega
theorem find_none {M : List Nm} {m : Nm} (h : m ∉ M) : (M.findIdx? fun x => decide (m = x)) = none := by
  rw [List.findIdx?_eq_none_iff]
  intro x hx
  simp
  intro e; subst e; exact h hx
theorem find_some {M : List Nm} {m : Nm} (h : m ∈ M) : ∃ j, (M.findIdx? fun x => decide (m = x)) = some j ∧ j < M.length := by
  cases q : (M.findIdx? fun x => decide (m = x)) with
  | none => rw [List.findIdx?_eq_none_iff] at q; have := q m h; simp at this
  | some j => exact ⟨j, rfl, (List.findIdx?_eq_some_iff_getElem.1 q).1⟩
theorem look_set (M : List Nm) {H : Obs} {x : LV} {m : Nm} (h : mapOf H x = some (List.map Nm.d M, List.map (fun _ => .bool true) M)) :
    evalLookup T H 152 x (.d (.agg [.int .i64 m.who, .int .i64 m.seq])) false = ⟨.d (.bool (decide (m ∈ M))), True, []⟩ := by
  unfold evalLookup
  simp only [t152, h, findD_nm]
  by_cases hm : m ∈ M
  · obtain ⟨j, hj, hl⟩ := find_some hm
    simp [hj, hl, hm, keyOk, kindsAre, kindIs]
  · simp [find_none hm, hm, keyOk, kindsAre, kindIs, zeroD, zeroDV, TK.isNone, TK.agg]
theorem look_set' (M : List Nm) {H : Obs} {m : Nm} : evalLookup T H 152 (.d (.mp (List.map Nm.d M) (List.map (fun _ => .bool true) M))) (.d (.agg [.int .i64 m.who, .int .i64 m.seq])) false = ⟨.d (.bool (decide (m ∈ M))), True, []⟩ := look_set M rfl
theorem put_set (M : List Nm) {H : Obs} {id : Nat} {m : Nm} (hm : m ∉ M) (h : H id = .map false (List.map Nm.d M) (List.map (fun _ => .bool true) M)) :
    evalMapUpdate T H 152 (.mp id) (.d (.agg [.int .i64 m.who, .int .i64 m.seq])) (.d (.bool true)) = ⟨.junk, True, [(id, .map false (List.map Nm.d (M ++ [m])) (List.map (fun _ => .bool true) (M ++ [m])))]⟩ := by
  unfold evalMapUpdate
  simp only [t152, h, findD_nm, find_none hm]
  simp [keyOk, kindsAre, kindIs, Nm.d]
theorem edit_find {l : List Ed} {n : Nm} (h : ¬ findI l n < 0) : ∃ i, ∃ hi : i < l.length, find? l n = some i ∧ findI l n = i ∧ needsOf l n = l[i].needs := by
  unfold findI at h
  split at h
  · rename_i i hi
    have hl := (List.findIdx?_eq_some_iff_getElem.1 (show l.findIdx? _ = some i from hi)).1
    exact ⟨i, hl, hi, by simp [findI, hi], by simp [needsOf, hi, hl]⟩
  · simp at h
theorem edit_none {l : List Ed} {n : Nm} (h : findI l n < 0) : needsOf l n = [] := by
  unfold findI at h
  split at h
  · rename_i i hi; omega
  · rename_i hi; simp [needsOf, hi]
def climbH (l : List Ed) (M : List Nm) : List (Nat × LObj) := [(1, .box false [.d (edsD l)]), (2, .box false [.mp 100]), (3, .box false [.fn 160 [.bx 1 0, .bx 2 0, .bx 3 0]]), (100, .map false (List.map Nm.d M) (List.map (fun _ => .bool true) M))]
theorem climb_step (l : List Ed) (f : Nat) (n : Nm) (M : List Nm) (hf : mu l M < f + 1) (ih : ∀ m M', mu l M' < f → OkG Tryz.prog 160 [.d m.d, .bx 1 0, .bx 2 0, .bx 3 0] (climbH l M') (climbH l (climbF l f m M')) (.tup [])) : OkG Tryz.prog 160 [.d n.d, .bx 1 0, .bx 2 0, .bx 3 0] (climbH l M) (climbH l (climbF l (f + 1) n M)) (.tup []) := by
  unfold climbH at *
  refine OkG.unit Tryz.func160 (by kernel_rfl) (c := _) rfl Tryz.ntmps160 (by simp) Tryz.results160 fun w0 X hp => ?_
  refine LWp.seq ?_
  refine LWp.rz hT hW ?_
  simp
  refine LWp.seq ?_
  refine LWp.ro hT hW (fun | 10 => some <| .plain ⟨.d (I64 (findI l n)), true⟩ | _ => none) ?_
  simp
  refine ⟨EFind_ok l n, ?_⟩
  refine LWp.seq ?_
  refine LWp.seq ?_
  refine LWp.rz hT hW ?_
  simp
  refine LWp.iff ?_
  simp
  refine ⟨fun h2 => ?_, fun h2 => ?_⟩
  · refine LWp.ret ?_
    simp
    exact Weak.to [] [(1, 1), (2, 2), (3, 3), (100, 100)] (by decide) (by decide) (by simp [hp]) (by simp) (by simp [climbF_succ, edit_none h2])
  · refine LWp.skip ?_
    simp
    refine LWp.seq ?_
    obtain ⟨i0, hi0, hfi, hfe, hne⟩ := edit_find (by simpa using h2)
    refine LWp.rz hT hW ?_
    simp [hfe, hi0]
    refine LWp.block ?_
    refine LWp.loopW (ι := Nat × List Nm) (fun ⟨i, acc⟩ => mkEnv [(1, .bx 1 0), (2, .bx 2 0), (3, .bx 3 0), (17, .d (nmsD (needsOf l n))), (18, .d (I64 (needsOf l n).length)), (19, .d (I64 i))]) (fun ⟨i, acc⟩ => mkObs [(1, .box false [.d (edsD l)]), (2, .box false [.mp 100]), (3, .box false [.fn 160 [.bx 1 0, .bx 2 0, .bx 3 0]]), (100, .map false (List.map Nm.d acc) (List.map (fun _ => .bool true) acc))]) (fun ⟨i, acc⟩ => i ≤ (needsOf l n).length ∧ acc = ((needsOf l n).take i).foldl (climbS l f) M ∧ mu l acc < f + 1) (fun ⟨i, acc⟩ => (needsOf l n).length - i) (0, M) (Weak.to [1, 2, 3, 17, 18, 19] [(1, 1), (2, 2), (3, 3), (100, 100)] (by decide) (by decide) (by simp [hp]) (by simp [hne]) (by simp)) (by simp [hf]) fun ⟨i, acc⟩ hi4 => ?_
    refine LWp.len (t := 17) rfl fun hlen => ?_
    simp at hlen
    refine LWp.seq ?_
    refine LWp.rz hT hW ?_
    simp
    refine LWp.seq ?_
    refine LWp.iff ?_
    simp
    refine ⟨fun h4 => ?_, fun h4 => ?_⟩
    · refine LWp.skip ?_
      simp
      refine LWp.seq ?_
      refine LWp.block ?_
      refine LWp.seq ?_
      refine LWp.rz hT hW ?_
      simp [h4]
      refine LWp.seq ?_
      refine LWp.rz hT hW ?_
      simp [look_set acc]
      refine LWp.iff ?_
      simp
      refine ⟨fun h6 => ?_, fun h6 => ?_⟩
      · refine LWp.seq ?_
        refine LWp.rz hT hW ?_
        simp [put_set acc h6]
        refine LWp.ro hT hW (fun | 31 => some (.gen ⟨[(1, 1), (2, 2), (3, 3), (100, 100)], [], [], climbH l (climbF l f (needsOf l n)[i] (acc ++ [(needsOf l n)[i]])), .tup []⟩) | _ => none) ?_
        simp [climbH]
        have hmem : (needsOf l n)[i] ∈ allNeeds l := needs_all (List.getElem_mem h4)
        have hI := ih (needsOf l n)[i] (acc ++ [(needsOf l n)[i]]) (by have := mu_lt hmem h6; have h3 : mu l acc < f + 1 := hi4.2.2; omega)
        refine ⟨by simpa using hI, ?_⟩
        refine LWp.rz hT hW ?_
        simp
        refine ⟨by omega, ?_⟩
        refine loopQ.mk (i + 1, climbF l f (needsOf l n)[i] (acc ++ [(needsOf l n)[i]])) (Weak.to [1, 2, 3, 17, 18, 19] [(1, 1), (2, 2), (3, 3), (100, 100)] (by decide) (by decide) (by simp [hp]) (by simp) (by simp)) ?_ ?_
        · refine ⟨h4, ?_, ?_⟩
          · rw [List.take_succ_eq_append_getElem h4, List.foldl_append, ← hi4.2.1]
            simp [climbS, h6]
          · have hmem : (needsOf l n)[i] ∈ allNeeds l := needs_all (List.getElem_mem h4)
            have := climbS_sub (f := f) hmem hi4.2.2
            simp only [climbS, if_neg h6] at this
            exact Nat.lt_of_le_of_lt (mu_le this) hi4.2.2
        · omega
      · refine LWp.skip ?_
        simp
        refine LWp.rz hT hW ?_
        simp
        refine ⟨by omega, ?_⟩
        refine loopQ.mk (i + 1, acc) (Weak.to [1, 2, 3, 17, 18, 19] [(1, 1), (2, 2), (3, 3), (100, 100)] (by decide) (by decide) (by simp [hp]) (by simp) (by simp)) ?_ ?_
        · refine ⟨h4, ?_, hi4.2.2⟩
          rw [List.take_succ_eq_append_getElem h4, List.foldl_append, ← hi4.2.1]
          simp [climbS, h6]
        · omega
    · refine LWp.exit ?_
      simp
      have q : i = (needsOf l n).length := by omega
      have e := hi4.2.1
      rw [q, List.take_length] at e
      exact Weak.to [] [(1, 1), (2, 2), (3, 3), (100, 100)] (by decide) (by decide) (by simp [hp]) (by simp) (by simp [climbF_succ, ← e])
theorem climb_ok (l : List Ed) : ∀ (f : Nat) (n : Nm) (M : List Nm), mu l M < f → OkG Tryz.prog 160 [.d n.d, .bx 1 0, .bx 2 0, .bx 3 0] (climbH l M) (climbH l (climbF l f n M)) (.tup [])
  | 0, _, _, h => absurd h (Nat.not_lt_zero _)
  | f + 1, n, M, h => climb_step l f n M h fun m M' h' => climb_ok l f m M' h'
theorem above_ok (l : List Ed) (n : Nm) : Ok Tryz.prog 118 [edsD l, n.d] ⟨.d (.mp (List.map Nm.d (aboveL l n)) (List.map (fun _ => .bool true) (aboveL l n))), false⟩ := by
  refine Ok.ret Tryz.func118 (by kernel_rfl) (c := _) rfl Tryz.ntmps118 (by simp) Tryz.results118 (by intro _ h; cases h) fun w0 X hp => ?_
  refine LWp.seq ?_
  refine LWp.rz hT hW ?_
  simp
  refine LWp.seq ?_
  refine LWp.rz hT hW ?_
  simp
  refine LWp.seq ?_
  refine LWp.rz hT hW ?_
  simp
  refine LWp.seq ?_
  refine LWp.rz hT hW ?_
  simp
  refine LWp.seq ?_
  refine LWp.ro hT hW (fun | 11 => some (.gen ⟨[(2, 1), (5, 2), (6, 3), (7, 100)], [], [], climbH l (aboveL l n), .tup []⟩) | _ => none) ?_
  simp [climbH]
  refine ⟨by simpa [climbH, aboveL] using climb_ok l (mu l [] + 1) n [] (Nat.lt_succ_self _), ?_⟩
  refine LWp.seq ?_
  refine LWp.rz hT hW ?_
  simp
  refine LWp.ret ?_
  simp
theorem EBefore_ok (l : List Ed) (a b : Nm) : Ok Tryz.prog 95 [edsD l, a.d, b.d] ⟨.d (.bool (decide (a ∈ aboveL l b))), true⟩ := by
  refine Ok.ret Tryz.func95 (by kernel_rfl) (c := _) rfl Tryz.ntmps95 (by simp) Tryz.results95 (by intro _ h; cases h) fun w0 X hp => ?_
  refine LWp.seq ?_
  refine LWp.rz hT hW ?_
  simp
  refine LWp.seq ?_
  refine LWp.regAny hT hW hMixed (lk [[],[],[0,1],[],[0,1,2,3],[0,1,2,3,4]]) (lk [[],[],[],[9],[],[]]) (lk [[],[],[9],[],[],[]]) (by kernel_rfl) (fun | 9 => some <| .plain ⟨.d (.mp (List.map Nm.d (aboveL l b)) (List.map (fun _ => .bool true) (aboveL l b))), false⟩ | _ => none) (by intro d; first | exact ⟨rfl, fun _ h => h⟩ | (split <;> exact ⟨rfl, fun _ h => h⟩)) ?_
  simp [look_set']
  refine ⟨above_ok l b, ?_⟩
  refine LWp.ret ?_
  simp
end Go.Eng
namespace Go.Proofs
set_option maxHeartbeats 1000000 in
set_option maxRecDepth 100000 in
theorem Tryz.bytealg_CompareString (a b : ByteArray) (w : World) :
    Calls Tryz.prog 170 #[.string a, .string b] w fun e w' => e = .returned (.int .i64 (Lib.compareBytes a.data.toList b.data.toList)) ∧ w' = w := by
  go_enter Tryz.func170, Tryz.ntmps170
  go_wp2
  rw [run_callFunc_extern Tryz.func194 (by kernel_rfl) (by kernel_rfl) (by kernel_rfl) (e := Extern.BytealgCompare.compare) (by kernel_rfl), Lib.run_compareString]
  simp only [Result.andThen]
  rw [Oper.upon_value]
  go_wp2
  go_ret
  exact ⟨rfl, rfl⟩
end Go.Proofs
namespace Go.Eng
open Go.Proofs Go.RowKit
def cmpB (a b : Str) : Int := Lib.compareBytes a b
theorem cmpB_ge : ∀ (a b : Str), decide (0 ≤ cmpB a b) = !Op.bytesLess a b
  | [], [] => rfl
  | [], _ :: _ => rfl
  | _ :: _, [] => rfl
  | a :: xs, b :: ys => by
    have ih := cmpB_ge xs ys
    unfold cmpB at *
    simp only [Lib.compareBytes, Op.bytesLess]
    by_cases h1 : a < b
    · simp [h1]
    · by_cases h2 : b < a
      · have : ¬ a = b := fun e => by subst e; exact h1 h2
        simp [h1, h2, this]
      · have : a = b := by
          have h1' : ¬ a.toNat < b.toNat := h1
          have h2' : ¬ b.toNat < a.toNat := h2
          exact UInt8.toNat_inj.1 (by omega)
        subst this
        simp [h1, ih]
theorem CompareString_ok (a b : Str) : Ok Tryz.prog 170 [.str a, .str b] ⟨.d (I64 (cmpB a b)), true⟩ := by
  refine ⟨⟨_, Tryz.func170, by kernel_rfl, rfl⟩, fun w X vs hX hr => ?_⟩
  match vs, hr.1 with
  | [u, v], _ =>
    have h1 := hr.2 0 _ _ rfl rfl
    have h2 := hr.2 1 _ _ rfl rfl
    cases h1; cases h2
    refine (Tryz.bytealg_CompareString _ _ w).mono ?_
    rintro e w' ⟨rfl, rfl⟩
    exact ⟨_, rfl, Bel.refl _ _, none, .int _ _⟩
end Go.Eng
namespace Go.Eng
def incr {α : Type} (lt : α → α → Bool) : List α → Bool
  | a :: b :: r => lt a b && incr lt (b :: r)
  | _ => true
def IncTo {α : Type} (lt : α → α → Bool) (l : List α) (i : Nat) : Prop := ∀ (j : Nat) (h : j + 1 < l.length), j + 1 < i → lt l[j] l[j + 1] = true
theorem incr_iff {α : Type} {lt : α → α → Bool} : ∀ {l : List α}, incr lt l = true ↔ ∀ (j : Nat) (h : j + 1 < l.length), lt l[j] l[j + 1] = true
  | [] => by simp [incr]
  | [_] => by simp [incr]
  | a :: b :: r => by
    simp only [incr, Bool.and_eq_true]
    rw [incr_iff (l := b :: r)]
    constructor
    · rintro ⟨h1, h2⟩ j hj
      cases j with
      | zero => exact h1
      | succ j => exact h2 j (by simpa using hj)
    · intro h
      exact ⟨h 0 (by simp), fun j hj => h (j + 1) (by simpa using hj)⟩
theorem IncTo.start {α : Type} {lt : α → α → Bool} {l : List α} {i : Nat} (h : i ≤ 1) : IncTo lt l i := fun j _ hji => by omega
theorem IncTo.succ {α : Type} {lt : α → α → Bool} {l : List α} {i : Nat} (h : IncTo lt l (i + 1)) (hi : i + 1 < l.length) (hp : lt l[i] l[i + 1] = true) : IncTo lt l (i + 2) := fun j hj hji => by
  by_cases e : j = i
  · subst e; exact hp
  · exact h j hj (by omega)
theorem IncTo.done {α : Type} {lt : α → α → Bool} {l : List α} {i : Nat} (h : IncTo lt l i) (hi : l.length ≤ i) : incr lt l = true := incr_iff.2 fun j hj => h j hj (by omega)
theorem incr_false {α : Type} {lt : α → α → Bool} {l : List α} {i : Nat} (hi : i + 1 < l.length) (hp : lt l[i] l[i + 1] = false) : incr lt l = false := by
  cases q : incr lt l with
  | false => rfl
  | true => have := incr_iff.1 q i hi; rw [hp] at this; cases this
def bless (a b : Str) : Bool := Op.bytesLess a b
def okNames (l : List Str) : Bool := l.all (fun s => decide (s ≠ []) && decide (s.length ≤ 16)) && decide l.Nodup
def okName (l : List Str) (i : Nat) (h : i < l.length) : Bool := decide (l[i] ≠ []) && decide (l[i].length ≤ 16) && decide (l[i] ∉ l.take i)
theorem okNames_iff {l : List Str} : okNames l = true ↔ ∀ (i : Nat) (h : i < l.length), okName l i h = true := by
  unfold okNames okName
  simp only [Bool.and_eq_true, List.all_eq_true, decide_eq_true_eq]
  constructor
  · rintro ⟨h1, h2⟩ i hi
    refine ⟨h1 _ (List.getElem_mem hi), fun hm => ?_⟩
    obtain ⟨j, hj, e⟩ := List.getElem_of_mem hm
    simp at hj e
    exact List.pairwise_iff_getElem.1 h2 j i (by omega) hi (by omega) e
  · intro h
    refine ⟨fun x hx => ?_, ?_⟩
    · obtain ⟨i, hi, rfl⟩ := List.getElem_of_mem hx
      exact (h i hi).1
    · refine List.pairwise_iff_getElem.2 fun i j hi hj hij e => ?_
      refine (h j hj).2 ?_
      rw [← e]
      exact List.mem_iff_getElem.2 ⟨i, by simp; omega, by simp⟩
def properE (e : Ed) : Bool := e.name.isName && decide ((touches e).length ≤ 24) && incr Nm.less e.needs && incr bless (e.puts.map Df.name) && incr bless e.drops && e.needs.all Nm.isName && okNames (touches e) && e.puts.all (fun d => decide (d.text.length ≤ 1024))
def errE (l : List Ed) (i : Nat) (e : Ed) : Int :=
  if properE e = false then 1 else if findI l e.name < i then 7 else if e.needs.any (fun n => decide (findI l n < 0)) = true then 6 else if e.name ∈ aboveL l e.name then 13 else 0
def validFrom (l : List Ed) : List Ed → Nat → Int × Int
  | [], i => (i, 0)
  | e :: r, i => if errE l i e = 0 then validFrom l r (i + 1) else (i, errE l i e)
def validV (l : List Ed) : Int × Int := if 64 < l.length then (0, 4) else validFrom l l 0
theorem validFrom_step {l : List Ed} {i : Nat} (h : i < l.length) (e : errE l i l[i] = 0) : validFrom l (l.drop i) i = validFrom l (l.drop (i + 1)) (i + 1) := by
  rw [List.drop_eq_getElem_cons h]
  simp [validFrom, e]
theorem validFrom_stop {l : List Ed} {i : Nat} (h : i < l.length) (e : errE l i l[i] ≠ 0) : validFrom l (l.drop i) i = ((i : Int), errE l i l[i]) := by
  rw [List.drop_eq_getElem_cons h]
  simp [validFrom, e]
theorem validFrom_end {l : List Ed} {i : Nat} (h : l.length ≤ i) : validFrom l (l.drop i) i = ((i : Int), 0) := by
  rw [List.drop_eq_nil_of_le h]
  rfl
end Go.Eng
namespace Go.Eng
open Go.Proofs
attribute [local simp] runL stepL evalG evalOp opLV constLV putEnv dstOk upd upds Res.plain Res.cond Res.fail evalBin evalUn seqQ blockQ argsEnv lookL lookH RetIs memless freshL evalPick evalMin bval bok evalLen evalIn strip whenC guardOps guardC slotsOf
  runM foldS stepI stepM maskE wrIn lk renO lookN evalCall evalCallee optAll resLV resObj retLV retObj retsLV retsObj evalLoad evalIndexAddr evalField solid cellsD_agg cellsD_int cellsD_bool cellsD_str cellsD_sl cellsD_ro cellsD_fn cellsL_agg cellsL_dagg cellsL_int cellsL_bool cellsL_str cellsL_sl cellsL_fn cellsL_ow cellsL_bx cellsL_lfn cellsL_nl takeL takeD mkAgg allD eqD eqDs kindsAre kindIs LObj.live TK.isNone TK.agg TK.isBool TK.isStr TK.isStruct Op.operands Call.operands
  evalBuildSlice evalAppend elemsOf evalStore evalBuild fillL lookupF putL evalSlice bound evalConv elemsS freezes frozen loadR
  mkEnv_at mkObs_at close_d close_agg close_ow close_bx close_fn close_nl touch_d touch_agg touch_ow touch_bx touch_fn touch_nl ren_d ren_agg ren_bx ren_rp ren_ow ren_fn ren_nl ren_junk retQ_ret retQ2_ret condQ_bool Nm.d Df.d Ed.d nmsD dfsD strsD edsD retC_ret nm_eq df_eq take_map_len take_map_app
  nm_t nm_d nm_td df_t df_d df_td str_t str_d str_td ed_t ed_d ed_td
  evalAppendIn evalBuildSliceC evalCopyC shortL evalApart evalAppendC evalAppendZ evalAppendG evalCapC isOc TK.isInt close_oc touch_oc ren_oc cellsL_oc evalCut evalClear evalCopy evalMake evalWrap evalCap evalNil isNilC lenL isInp gorc gorc2
  mapOf findD keyEq keyOk evalMakeMap evalRange zeroD zeroDV argsG shutG outN lenv retG0_ret retG0_normal retG1_ret retGR_ret renO close_mp touch_mp ren_mp optAll_d optAll_d' touch_ds cellsL_mp cellsD_mp cellsL_dmp
  evalMapSet evalPtr TK.isPtr evalToArr firstL retN_ret retsQ rvarL close_bm touch_bm ren_bm cellsD_bm cellsL_bm cellsL_lbm
theorem Compare_ok (a b : Str) : Ok Tryz.prog 148 [.str a, .str b] ⟨.d (I64 (cmpB a b)), true⟩ := by
  refine Ok.ret Tryz.func148 (by kernel_rfl) (c := _) rfl Tryz.ntmps148 (by simp) Tryz.results148 (by intro _ h; cases h) fun w0 X hp => ?_
  refine LWp.seq ?_
  refine LWp.rz hT hW ?_
  simp
  refine LWp.seq ?_
  refine LWp.ro hT hW (fun | 7 => some <| .plain ⟨.d (I64 (cmpB a b)), true⟩ | _ => none) ?_
  simp
  refine ⟨CompareString_ok a b, ?_⟩
  refine LWp.ret ?_
  simp
theorem isNaN_ok (a : Int) : Ok Tryz.prog 192 [I64 a] ⟨.d (.bool false), true⟩ := by
  refine Ok.ret Tryz.func192 (by kernel_rfl) (c := _) rfl Tryz.ntmps192 (by simp) Tryz.results192 (by intro _ h; cases h) fun w0 X hp => ?_
  refine LWp.seq ?_
  refine LWp.rz hT hW ?_
  simp
  refine LWp.seq ?_
  refine LWp.rz hT hW ?_
  simp
  refine LWp.ret ?_
  simp
def cmpI (a b : Int) : Int := if a < b then -1 else if a > b then 1 else 0
def cmpN (a b : Nm) : Int := if cmpI a.who b.who ≠ 0 then cmpI a.who b.who else cmpI a.seq b.seq
theorem cmpN_ge (a b : Nm) : decide (0 ≤ cmpN a b) = !a.less b := by
  unfold cmpN cmpI Nm.less
  by_cases h1 : a.who < b.who
  · simp [h1]
  · by_cases h2 : a.who > b.who
    · have : ¬ a.who = b.who := by omega
      simp [h1, h2, this]
    · have : a.who = b.who := by omega
      by_cases h3 : a.seq < b.seq
      · simp [this, h3]
      · by_cases h4 : a.seq > b.seq <;> simp [this, h3, h4]
theorem cmpN_ge' (a b : Nm) : 0 ≤ cmpN a b ↔ a.less b = false := by
  have := cmpN_ge a b
  rw [Bool.eq_iff_iff] at this
  simpa using this
theorem cmpB_ge' (a b : Str) : 0 ≤ cmpB a b ↔ Op.bytesLess a b = false := by
  have := cmpB_ge a b
  rw [Bool.eq_iff_iff] at this
  simpa using this
theorem cmpI_ok (a b : Int) : Ok Tryz.prog 165 [I64 a, I64 b] ⟨.d (I64 (cmpI a b)), true⟩ := by
  refine Ok.ret Tryz.func165 (by kernel_rfl) (c := _) rfl Tryz.ntmps165 (by simp) Tryz.results165 (by intro _ h; cases h) fun w0 X hp => ?_
  refine LWp.seq ?_
  refine LWp.rz hT hW ?_
  simp
  refine LWp.seq ?_
  refine LWp.ro hT hW (fun | 8 => some <| .plain ⟨.d (.bool false), true⟩ | _ => none) ?_
  simp
  refine ⟨isNaN_ok a, ?_⟩
  refine LWp.seq ?_
  refine LWp.ro hT hW (fun | 10 => some <| .plain ⟨.d (.bool false), true⟩ | _ => none) ?_
  simp
  refine ⟨isNaN_ok b, ?_⟩
  refine LWp.seq ?_
  refine LWp.seq ?_
  refine LWp.rz hT hW ?_
  simp
  refine LWp.iff ?_
  simp
  refine LWp.skip ?_
  simp
  refine LWp.seq ?_
  refine LWp.seq ?_
  refine LWp.rz hT hW ?_
  simp
  refine LWp.iff ?_
  simp
  refine LWp.skip ?_
  simp
  refine LWp.seq ?_
  refine LWp.seq ?_
  refine LWp.rz hT hW ?_
  simp
  refine LWp.iff ?_
  simp
  refine ⟨fun h9 => ?_, fun h9 => ?_⟩
  · refine LWp.seq ?_
    refine LWp.rz hT hW ?_
    simp
    refine LWp.ret ?_
    simp [cmpI, h9]
  · refine LWp.skip ?_
    simp
    refine LWp.seq ?_
    refine LWp.seq ?_
    refine LWp.rz hT hW ?_
    simp
    refine LWp.iff ?_
    simp
    refine ⟨fun h11 => ?_, fun h11 => ?_⟩
    · refine LWp.seq ?_
      refine LWp.rz hT hW ?_
      simp
      refine LWp.ret ?_
      have : ¬ a < b := by omega
      simp [cmpI, this, h11]
    · refine LWp.skip ?_
      simp
      refine LWp.seq ?_
      refine LWp.rz hT hW ?_
      simp
      refine LWp.ret ?_
      have h1 : ¬ a < b := by omega
      have h2 : ¬ b < a := by omega
      simp [cmpI, h1, h2]
def orI (l : List Int) : Int := match l.find? (fun x => decide (x ≠ 0)) with | some x => x | none => 0
theorem orI_nil : orI [] = 0 := rfl
theorem orI_cons (x : Int) (l : List Int) : orI (x :: l) = if x ≠ 0 then x else orI l := by
  unfold orI
  by_cases h : x = 0
  · subst h; simp
  · simp [h]
theorem orI_ok (l : List Int) : Ok Tryz.prog 164 [.sl (l.map I64)] ⟨.d (I64 (orI l)), true⟩ := by
  refine Ok.ret Tryz.func164 (by kernel_rfl) (c := _) rfl Tryz.ntmps164 (by simp) Tryz.results164 (by intro _ h; cases h) fun w0 X hp => ?_
  refine LWp.len (t := 0) rfl fun hlen => ?_
  simp at hlen
  refine LWp.seq ?_
  refine LWp.rz hT hW ?_
  simp
  refine LWp.seq ?_
  refine LWp.rz hT hW ?_
  simp
  refine LWp.seq ?_
  refine LWp.seq ?_
  refine LWp.rz hT hW ?_
  simp
  refine LWp.block ?_
  refine LWp.loopW (ι := Nat) (fun i => mkEnv [(3, .d (I64 0)), (6, .d (.sl (l.map I64))), (7, .d (I64 l.length)), (8, .d (I64 i))]) (fun i => mkObs []) (fun i => i ≤ l.length ∧ orI (l.drop i) = orI l) (fun i => l.length - i) 0 (Weak.to [3, 6, 7, 8] [] (by decide) (by decide) (by simp [hp]) (by simp) (by simp)) (by simp) fun i hi3 => ?_
  refine LWp.seq ?_
  refine LWp.rz hT hW ?_
  simp
  refine LWp.seq ?_
  refine LWp.iff ?_
  simp
  refine ⟨fun h3 => ?_, fun h3 => ?_⟩
  · refine LWp.skip ?_
    simp
    refine LWp.seq ?_
    refine LWp.block ?_
    refine LWp.seq ?_
    refine LWp.rz hT hW ?_
    simp [h3]
    refine LWp.seq ?_
    refine LWp.rz hT hW ?_
    simp
    refine LWp.iff ?_
    simp
    refine ⟨fun h5 => ?_, fun h5 => ?_⟩
    · refine LWp.seq ?_
      refine LWp.rz hT hW ?_
      simp
      refine LWp.ret ?_
      have h := hi3.2
      rw [List.drop_eq_getElem_cons h3, orI_cons, if_pos (by simpa using h5)] at h
      simp [← h]
    · refine LWp.skip ?_
      simp
      refine LWp.rz hT hW ?_
      simp
      refine ⟨by omega, ?_⟩
      refine loopQ.mk (i + 1) (Weak.to [3, 6, 7, 8] [] (by decide) (by decide) (by simp [hp]) (by simp) (by simp)) ?_ ?_
      · refine ⟨h3, ?_⟩
        have h := hi3.2
        rw [List.drop_eq_getElem_cons h3, orI_cons, if_neg (by simpa using h5)] at h
        exact h
      · omega
  · refine LWp.exit ?_
    simp
    refine LWp.seq ?_
    refine LWp.rz hT hW ?_
    simp
    refine LWp.ret ?_
    have h := hi3.2
    rw [List.drop_eq_nil_of_le (by omega), orI_nil] at h
    simp [← h]
theorem compare_ok (a b : Nm) : Ok Tryz.prog 126 [a.d, b.d] ⟨.d (I64 (cmpN a b)), true⟩ := by
  refine Ok.ret Tryz.func126 (by kernel_rfl) (c := _) rfl Tryz.ntmps126 (by simp) Tryz.results126 (by intro _ h; cases h) fun w0 X hp => ?_
  refine LWp.seq ?_
  refine LWp.rz hT hW ?_
  simp
  refine LWp.seq ?_
  refine LWp.regAny hT hW hMixed (lk [[],[0],[],[2],[0,1,2,3],[],[5],[],[7],[0,1,2,3,4,5,6,7,8],[0,1,2,3,4,5,6,7,8,9],[0,1,2,3,4,5,6,7,8,9,10],[0,1,2,3,4,5,6,7,8,9,10,11]]) (lk [[],[],[],[],[],[9],[9],[9],[9],[],[],[],[]]) (lk [[],[],[],[],[9],[],[],[],[],[14],[15],[16],[]]) (by kernel_rfl) (fun | 9 => some <| .plain ⟨.d (I64 (cmpI a.who b.who)), true⟩ | 14 => some <| .plain ⟨.d (I64 (cmpI a.seq b.seq)), true⟩ | 16 => some <| .plain ⟨.d (I64 (cmpN a b)), true⟩ | _ => none) (by intro d; first | exact ⟨rfl, fun _ h => h⟩ | (split <;> exact ⟨rfl, fun _ h => h⟩)) ?_
  simp
  refine ⟨⟨⟨⟨cmpI_ok _ _, cmpI_ok _ _⟩, rfl⟩, ?_⟩, ?_⟩
  · have h := orI_ok [cmpI a.who b.who, cmpI a.seq b.seq]
    simp only [orI_cons, orI_nil] at h
    have e : (if cmpI a.who b.who ≠ 0 then cmpI a.who b.who else if cmpI a.seq b.seq ≠ 0 then cmpI a.seq b.seq else 0) = cmpN a b := by
      unfold cmpN
      split
      · rfl
      · split
        · rfl
        · omega
    rw [e] at h
    exact h
  refine LWp.ret ?_
  simp
theorem possible_ok (n : Nm) : Ok Tryz.prog 145 [n.d] ⟨.d (.bool n.isName), true⟩ := by
  refine Ok.ret Tryz.func145 (by kernel_rfl) (c := _) rfl Tryz.ntmps145 (by simp) Tryz.results145 (by intro _ h; cases h) fun w0 X hp => ?_
  refine LWp.seq ?_
  refine LWp.rz hT hW ?_
  simp
  refine LWp.seq ?_
  refine LWp.rz hT hW ?_
  simp
  refine LWp.ret ?_
  have h : (n.who < 4) ↔ (n.who ≤ 3) := by omega
  simp [Nm.isName, h]
theorem incNm_ok (l : List Nm) : Ok Tryz.prog 146 [nmsD l, .fn 126 []] ⟨.d (.bool (incr Nm.less l)), true⟩ := by
  refine Ok.ret Tryz.func146 (by kernel_rfl) (c := _) rfl Tryz.ntmps146 (by simp) Tryz.results146 (by intro _ h; cases h) fun w0 X hp => ?_
  refine LWp.len (t := 0) rfl fun hlen => ?_
  simp at hlen
  refine LWp.seq ?_
  refine LWp.rz hT hW ?_
  simp
  refine LWp.seq ?_
  refine LWp.seq ?_
  refine LWp.rz hT hW ?_
  simp
  refine LWp.block ?_
  refine LWp.loopW (ι := Nat) (fun i => mkEnv [(0, .d (nmsD l)), (1, .d (.fn 126 [])), (7, .d (I64 l.length)), (8, .d (I64 i))]) (fun i => mkObs []) (fun i => i ≤ l.length ∧ IncTo Nm.less l i) (fun i => l.length - i) 0 (Weak.to [0, 1, 7, 8] [] (by decide) (by decide) (by simp [hp]) (by simp) (by simp)) (⟨Nat.zero_le _, IncTo.start (by omega)⟩) fun i hi2 => ?_
  refine LWp.seq ?_
  refine LWp.rz hT hW ?_
  simp
  refine LWp.seq ?_
  refine LWp.iff ?_
  simp
  refine ⟨fun h2 => ?_, fun h2 => ?_⟩
  · refine LWp.skip ?_
    simp
    refine LWp.seq ?_
    refine LWp.block ?_
    refine LWp.seq ?_
    refine LWp.rz hT hW ?_
    simp
    refine LWp.seq ?_
    rcases i with _ | i
    · refine LWp.regAny hT hW hMixed (lk [[],[0],[0,1],[0,1,2],[0,1,2],[0,1,2],[0,1,2,5],[0,1,2,4,5,6],[0,1,2,4,5,6,7],[0,1,2],[0,1,2],[0,1,2,9,10],[0,1,2,9,10,11],[0,1,2,3,4,5,6,7,8,9,10,11,12],[0,1,2,3,4,5,6,7,8,9,10,11,12,13],[0,1,2,3,4,5,6,7,8,9,10,11,12,13,14]]) (lk [[],[],[],[],[],[],[],[],[],[],[],[],[],[],[],[]]) (lk [[],[],[],[],[],[],[],[],[],[],[],[],[],[24],[],[]]) (by kernel_rfl) (fun _ => none) (by intro d; first | exact ⟨rfl, fun _ h => h⟩ | (split <;> exact ⟨rfl, fun _ h => h⟩)) ?_
      simp [Nat.zero_le]
      refine LWp.iff ?_
      simp [Nat.zero_le]
      refine LWp.skip ?_
      simp
      refine LWp.rz hT hW ?_
      simp
      first | refine And.intro (by omega) ?_ | skip
      refine loopQ.mk 1 (Weak.to [0, 1, 7, 8] [] (by decide) (by decide) (by simp [hp]) (by simp) (by simp)) ?_ ?_
      · exact ⟨h2, IncTo.start (by omega)⟩
      · omega
    · refine LWp.regAny hT hW hMixed (lk [[],[0],[0,1],[0,1,2],[0,1,2],[0,1,2],[0,1,2,5],[0,1,2,4,5,6],[0,1,2,4,5,6,7],[0,1,2],[0,1,2],[0,1,2,9,10],[0,1,2,9,10,11],[0,1,2,3,4,5,6,7,8,9,10,11,12],[0,1,2,3,4,5,6,7,8,9,10,11,12,13],[0,1,2,3,4,5,6,7,8,9,10,11,12,13,14]]) (lk [[],[],[],[],[],[],[],[],[],[],[],[],[],[],[],[]]) (lk [[],[],[],[],[],[],[],[],[],[],[],[],[],[24],[],[]]) (by kernel_rfl) (fun | 24 => some <| .plain ⟨.d (I64 (cmpN (l.getD i default) (l.getD (i + 1) default))), true⟩ | _ => none) (by intro d; first | exact ⟨rfl, fun _ h => h⟩ | (split <;> exact ⟨rfl, fun _ h => h⟩)) ?_
      simp [h2, show i < l.length by omega]
      refine ⟨⟨by omega, compare_ok _ _⟩, ?_⟩
      refine LWp.iff ?_
      simp [cmpN_ge']
      refine ⟨fun h4 => ?_, fun h4 => ?_⟩
      · refine LWp.seq ?_
        refine LWp.rz hT hW ?_
        simp
        refine LWp.ret ?_
        simp
        exact incr_false h2 (by simpa using h4)
      · refine LWp.skip ?_
        simp
        refine LWp.rz hT hW ?_
        simp
        first | refine And.intro (by omega) ?_ | skip
        refine loopQ.mk (i + 2) (Weak.to [0, 1, 7, 8] [] (by decide) (by decide) (by simp [hp]) (by simp [show (i : Int) + 1 + 1 = i + 2 by omega]) (by simp)) ?_ ?_
        · exact ⟨h2, hi2.2.succ h2 h4⟩
        · omega
  · refine LWp.exit ?_
    simp
    refine LWp.seq ?_
    refine LWp.rz hT hW ?_
    simp
    refine LWp.ret ?_
    simp
    exact hi2.2.done (by omega)
theorem incStr_ok (l : List Str) : Ok Tryz.prog 147 [strsD l, .fn 148 []] ⟨.d (.bool (incr bless l)), true⟩ := by
  refine Ok.ret Tryz.func147 (by kernel_rfl) (c := _) rfl Tryz.ntmps147 (by simp) Tryz.results147 (by intro _ h; cases h) fun w0 X hp => ?_
  refine LWp.len (t := 0) rfl fun hlen => ?_
  simp at hlen
  refine LWp.seq ?_
  refine LWp.rz hT hW ?_
  simp
  refine LWp.seq ?_
  refine LWp.seq ?_
  refine LWp.rz hT hW ?_
  simp
  refine LWp.block ?_
  refine LWp.loopW (ι := Nat) (fun i => mkEnv [(0, .d (strsD l)), (1, .d (.fn 148 [])), (7, .d (I64 l.length)), (8, .d (I64 i))]) (fun i => mkObs []) (fun i => i ≤ l.length ∧ IncTo bless l i) (fun i => l.length - i) 0 (Weak.to [0, 1, 7, 8] [] (by decide) (by decide) (by simp [hp]) (by simp) (by simp)) (⟨Nat.zero_le _, IncTo.start (by omega)⟩) fun i hi2 => ?_
  refine LWp.seq ?_
  refine LWp.rz hT hW ?_
  simp
  refine LWp.seq ?_
  refine LWp.iff ?_
  simp
  refine ⟨fun h2 => ?_, fun h2 => ?_⟩
  · refine LWp.skip ?_
    simp
    refine LWp.seq ?_
    refine LWp.block ?_
    refine LWp.seq ?_
    refine LWp.rz hT hW ?_
    simp
    refine LWp.seq ?_
    rcases i with _ | i
    · refine LWp.regAny hT hW hMixed (lk [[],[0],[0,1],[0,1,2],[0,1,2],[0,1,2],[0,1,2,5],[0,1,2,4,5,6],[0,1,2,4,5,6,7],[0,1,2],[0,1,2],[0,1,2,9,10],[0,1,2,9,10,11],[0,1,2,3,4,5,6,7,8,9,10,11,12],[0,1,2,3,4,5,6,7,8,9,10,11,12,13],[0,1,2,3,4,5,6,7,8,9,10,11,12,13,14]]) (lk [[],[],[],[],[],[],[],[],[],[],[],[],[],[],[],[]]) (lk [[],[],[],[],[],[],[],[],[],[],[],[],[],[24],[],[]]) (by kernel_rfl) (fun _ => none) (by intro d; first | exact ⟨rfl, fun _ h => h⟩ | (split <;> exact ⟨rfl, fun _ h => h⟩)) ?_
      simp [Nat.zero_le]
      refine LWp.iff ?_
      simp [Nat.zero_le]
      refine LWp.skip ?_
      simp
      refine LWp.rz hT hW ?_
      simp
      first | refine And.intro (by omega) ?_ | skip
      refine loopQ.mk 1 (Weak.to [0, 1, 7, 8] [] (by decide) (by decide) (by simp [hp]) (by simp) (by simp)) ?_ ?_
      · exact ⟨h2, IncTo.start (by omega)⟩
      · omega
    · refine LWp.regAny hT hW hMixed (lk [[],[0],[0,1],[0,1,2],[0,1,2],[0,1,2],[0,1,2,5],[0,1,2,4,5,6],[0,1,2,4,5,6,7],[0,1,2],[0,1,2],[0,1,2,9,10],[0,1,2,9,10,11],[0,1,2,3,4,5,6,7,8,9,10,11,12],[0,1,2,3,4,5,6,7,8,9,10,11,12,13],[0,1,2,3,4,5,6,7,8,9,10,11,12,13,14]]) (lk [[],[],[],[],[],[],[],[],[],[],[],[],[],[],[],[]]) (lk [[],[],[],[],[],[],[],[],[],[],[],[],[],[24],[],[]]) (by kernel_rfl) (fun | 24 => some <| .plain ⟨.d (I64 (cmpB (l.getD i default) (l.getD (i + 1) default))), true⟩ | _ => none) (by intro d; first | exact ⟨rfl, fun _ h => h⟩ | (split <;> exact ⟨rfl, fun _ h => h⟩)) ?_
      simp [h2, show i < l.length by omega]
      refine ⟨⟨by omega, Compare_ok _ _⟩, ?_⟩
      refine LWp.iff ?_
      simp [cmpB_ge']
      refine ⟨fun h4 => ?_, fun h4 => ?_⟩
      · refine LWp.seq ?_
        refine LWp.rz hT hW ?_
        simp
        refine LWp.ret ?_
        simp
        exact incr_false h2 (by simpa [bless] using h4)
      · refine LWp.skip ?_
        simp
        refine LWp.rz hT hW ?_
        simp
        first | refine And.intro (by omega) ?_ | skip
        refine loopQ.mk (i + 2) (Weak.to [0, 1, 7, 8] [] (by decide) (by decide) (by simp [hp]) (by simp [show (i : Int) + 1 + 1 = i + 2 by omega]) (by simp)) ?_ ?_
        · exact ⟨h2, hi2.2.succ h2 h4⟩
        · omega
  · refine LWp.exit ?_
    simp
    refine LWp.seq ?_
    refine LWp.rz hT hW ?_
    simp
    refine LWp.ret ?_
    simp
    exact hi2.2.done (by omega)
open Go.Proofs
theorem etouches_ok (e : Ed) (h1 : e.puts.length ≤ 1100000) (h2 : e.drops.length ≤ 1100000) : Ok Tryz.prog 107 [e.d] ⟨.d (strsD (touches e)), true⟩ := by
  refine Ok.ret Tryz.func107 (by kernel_rfl) (c := _) rfl Tryz.ntmps107 (by simp) Tryz.results107 (by intro _ h; cases h) fun w0 X hp => ?_
  refine LWp.seq ?_
  refine LWp.rz hT hW ?_
  simp
  refine LWp.seq ?_
  refine LWp.rz hT hW ?_
  simp
  refine LWp.seq ?_
  refine LWp.seq ?_
  refine LWp.rz hT hW ?_
  simp
  refine LWp.block ?_
  refine LWp.loopW (ι := Nat × List Str) (fun ⟨i, acc⟩ => mkEnv [(1, .bx 1 0), (3, .ow 3 0 acc.length), (7, .d (dfsD e.puts)), (8, .d (I64 e.puts.length)), (9, .d (I64 i))]) (fun ⟨i, acc⟩ => mkObs [(3, .row false 1 (acc.map .str)), (1, .box false ((cellsD e.d).map .d))]) (fun ⟨i, acc⟩ => i ≤ e.puts.length ∧ acc.length = i ∧ acc = (e.puts.map Df.name).take i) (fun ⟨i, acc⟩ => e.puts.length - i) (0, []) (Weak.to [1, 3, 7, 8, 9] [(3, 3), (1, 1)] (by decide) (by decide) (by simp [hp]) (by simp) (by simp)) (by simp) fun ⟨i, acc⟩ hi3 => ?_
  refine LWp.seq ?_
  refine LWp.rz hT hW ?_
  simp
  refine LWp.seq ?_
  refine LWp.iff ?_
  simp
  refine ⟨fun h3 => ?_, fun h3 => ?_⟩
  · refine LWp.skip ?_
    simp
    refine LWp.seq ?_
    refine LWp.block ?_
    refine LWp.seq ?_
    refine LWp.rz hT hW ?_
    simp [h3]
    refine LWp.rz hT hW ?_
    simp
    refine ⟨by have := hi3.2.1; omega, ?_⟩
    refine LWp.rz hT hW ?_
    simp
    refine ⟨by omega, ?_⟩
    refine loopQ.mk (i + 1, acc ++ [e.puts[i].name]) (Weak.to [1, 3, 7, 8, 9] [(17, 3), (1, 1)] (by decide) (by decide) (by simp [hp]) (by simp) (by simp)) ?_ ?_
    · exact ⟨h3, by simp [hi3.2.1], by rw [map_take_succ h3, ← hi3.2.2]⟩
    · omega
  · refine LWp.exit ?_
    simp
    refine LWp.seq ?_
    refine LWp.rz hT hW ?_
    simp
    refine ⟨by have := hi3.2.1; omega, ?_⟩
    refine LWp.ret ?_
    have q : i = e.puts.length := by omega
    have := hi3.2.2
    rw [q] at this
    have q2 : ∀ (x y : List DV) (n : Nat), n = x.length + y.length → List.take n (x ++ y) = x ++ y := fun x y n h => List.take_of_length_le (by simp [h])
    simp [this, touches, q2]
    rintro x (⟨a, _, rfl⟩ | ⟨a, _, rfl⟩) <;> simp
theorem IndexOfStr_ok (l : List Str) (n : Str) : Ok Tryz.prog 155 [strsD l, .str n] ⟨.d (I64 (idxI (fun x => decide (n = x)) l)), true⟩ := by
  refine Ok.ret Tryz.func155 (by kernel_rfl) (c := _) rfl Tryz.ntmps155 (by simp) Tryz.results155 (by intro _ h; cases h) fun w0 X hp => ?_
  refine LWp.len (t := 0) rfl fun hlen => ?_
  simp at hlen
  refine LWp.seq ?_
  refine LWp.rz hT hW ?_
  simp
  refine LWp.seq ?_
  refine LWp.seq ?_
  refine LWp.rz hT hW ?_
  simp
  refine LWp.block ?_
  refine LWp.loopW (ι := Nat) (fun i => mkEnv [(0, .d (strsD l)), (1, .d (.str n)), (7, .d (I64 l.length)), (8, .d (I64 i))]) (fun i => mkObs []) (fun i => i ≤ l.length ∧ Pre (fun x => decide (n = x)) l i) (fun i => l.length - i) 0 (Weak.to [0, 1, 7, 8] [] (by decide) (by decide) (by simp [hp]) (by simp) (by simp)) (⟨Nat.zero_le _, Pre.zero⟩) fun i hi2 => ?_
  refine LWp.seq ?_
  refine LWp.rz hT hW ?_
  simp
  refine LWp.seq ?_
  refine LWp.iff ?_
  simp
  refine ⟨fun h2 => ?_, fun h2 => ?_⟩
  · refine LWp.skip ?_
    simp
    refine LWp.seq ?_
    refine LWp.block ?_
    refine LWp.seq ?_
    refine LWp.rz hT hW ?_
    simp
    refine LWp.seq ?_
    refine LWp.rz hT hW ?_
    simp [h2]
    refine LWp.iff ?_
    simp
    refine ⟨fun h4 => ?_, fun h4 => ?_⟩
    · refine LWp.seq ?_
      refine LWp.rz hT hW ?_
      simp
      refine LWp.ret ?_
      simp [idxI_some (hi2.2.found h2 (by simpa using h4))]
    · refine LWp.skip ?_
      simp
      refine LWp.rz hT hW ?_
      simp
      refine ⟨by omega, ?_⟩
      refine loopQ.mk (i + 1) (Weak.to [0, 1, 7, 8] [] (by decide) (by decide) (by simp [hp]) (by simp) (by simp)) ?_ ?_
      · exact ⟨h2, hi2.2.succ h2 (by simpa using h4)⟩
      · omega
  · refine LWp.exit ?_
    simp
    refine LWp.seq ?_
    refine LWp.rz hT hW ?_
    simp
    refine LWp.ret ?_
    simp [idxI_none (hi2.2.none (by omega))]
theorem InStr_ok (l : List Str) (n : Str) : Ok Tryz.prog 106 [strsD l, .str n] ⟨.d (.bool (decide (n ∈ l))), true⟩ := by
  refine Ok.ret Tryz.func106 (by kernel_rfl) (c := _) rfl Tryz.ntmps106 (by simp) Tryz.results106 (by intro _ h; cases h) fun w0 X hp => ?_
  refine LWp.seq ?_
  refine LWp.rz hT hW ?_
  simp
  refine LWp.seq ?_
  refine LWp.ro hT hW (fun | 7 => some <| .plain ⟨.d (I64 (idxI (fun x => decide (n = x)) l)), true⟩ | _ => none) ?_
  simp
  refine ⟨IndexOfStr_ok l n, ?_⟩
  refine LWp.ret ?_
  simp [idxI_nonneg']
theorem IndexDf_ok (l : List Df) (p : Df → Bool) (g : FuncId) (cs : List DV) (hg : ∀ x ∈ l, Ok Tryz.prog g (x.d :: cs) ⟨.d (.bool (p x)), true⟩) : Ok Tryz.prog 171 [dfsD l, .fn g cs] ⟨.d (I64 (idxI p l)), true⟩ := by
  refine Ok.ret Tryz.func171 (by kernel_rfl) (c := _) rfl Tryz.ntmps171 (by simp) Tryz.results171 (by intro _ h; cases h) fun w0 X hp => ?_
  refine LWp.len (t := 0) rfl fun hlen => ?_
  simp at hlen
  refine LWp.seq ?_
  refine LWp.rz hT hW ?_
  simp
  refine LWp.seq ?_
  refine LWp.seq ?_
  refine LWp.rz hT hW ?_
  simp
  refine LWp.block ?_
  refine LWp.loopW (ι := Nat) (fun i => mkEnv [(0, .d (dfsD l)), (1, .d (.fn g cs)), (7, .d (I64 l.length)), (8, .d (I64 i))]) (fun i => mkObs []) (fun i => i ≤ l.length ∧ Pre p l i) (fun i => l.length - i) 0 (Weak.to [0, 1, 7, 8] [] (by decide) (by decide) (by simp [hp]) (by simp) (by simp)) (⟨Nat.zero_le _, Pre.zero⟩) fun i hi2 => ?_
  refine LWp.seq ?_
  refine LWp.rz hT hW ?_
  simp
  refine LWp.seq ?_
  refine LWp.iff ?_
  simp
  refine ⟨fun h2 => ?_, fun h2 => ?_⟩
  · refine LWp.skip ?_
    simp
    refine LWp.seq ?_
    refine LWp.block ?_
    refine LWp.seq ?_
    refine LWp.rz hT hW ?_
    simp
    refine LWp.seq ?_
    refine LWp.ro hT hW (fun | 16 => some <| .plain ⟨.d (.bool (p l[i])), true⟩ | _ => none) ?_
    simp [h2]
    refine ⟨hg l[i] (List.getElem_mem h2), ?_⟩
    refine LWp.iff ?_
    simp
    refine ⟨fun h4 => ?_, fun h4 => ?_⟩
    · refine LWp.seq ?_
      refine LWp.rz hT hW ?_
      simp
      refine LWp.ret ?_
      simp [idxI_some (hi2.2.found h2 h4)]
    · refine LWp.skip ?_
      simp
      refine LWp.rz hT hW ?_
      simp
      refine ⟨by omega, ?_⟩
      refine loopQ.mk (i + 1) (Weak.to [0, 1, 7, 8] [] (by decide) (by decide) (by simp [hp]) (by simp) (by simp)) ?_ ?_
      · exact ⟨h2, hi2.2.succ h2 h4⟩
      · omega
  · refine LWp.exit ?_
    simp
    refine LWp.seq ?_
    refine LWp.rz hT hW ?_
    simp
    refine LWp.ret ?_
    simp [idxI_none (hi2.2.none (by omega))]
theorem AnyDf_ok (l : List Df) (p : Df → Bool) (g : FuncId) (cs : List DV) (hg : ∀ x ∈ l, Ok Tryz.prog g (x.d :: cs) ⟨.d (.bool (p x)), true⟩) : Ok Tryz.prog 149 [dfsD l, .fn g cs] ⟨.d (.bool (l.any p)), true⟩ := by
  refine Ok.ret Tryz.func149 (by kernel_rfl) (c := _) rfl Tryz.ntmps149 (by simp) Tryz.results149 (by intro _ h; cases h) fun w0 X hp => ?_
  refine LWp.seq ?_
  refine LWp.rz hT hW ?_
  simp
  refine LWp.seq ?_
  refine LWp.ro hT hW (fun | 7 => some <| .plain ⟨.d (I64 (idxI p l)), true⟩ | _ => none) ?_
  simp
  refine ⟨IndexDf_ok l p g cs hg, ?_⟩
  refine LWp.ret ?_
  simp [← idxI_nonneg]
theorem proper1_ok (d : Df) : Ok Tryz.prog 150 [d.d] ⟨.d (.bool (decide (d.text.length > 1024))), true⟩ := by
  refine Ok.ret Tryz.func150 (by kernel_rfl) (c := _) rfl Tryz.ntmps150 (by simp) Tryz.results150 (by intro _ h; cases h) fun w0 X hp => ?_
  refine LWp.seq ?_
  refine LWp.rz hT hW ?_
  simp
  refine LWp.seq ?_
  refine LWp.rz hT hW ?_
  simp
  refine LWp.ret ?_
  simp
  omega
theorem names_take' {e : Ed} : List.take e.puts.length (List.map DV.str (touches e)) = List.map DV.str (e.puts.map Df.name) := by simp [touches]
theorem proper_ok (e : Ed) (b1 : e.puts.length ≤ 1100000) (b2 : e.drops.length ≤ 1100000) : Ok Tryz.prog 92 [e.d] ⟨.d (.bool (properE e)), true⟩ := by
  refine Ok.ret Tryz.func92 (by kernel_rfl) (c := _) rfl Tryz.ntmps92 (by simp) Tryz.results92 (by intro _ h; cases h) fun w0 X hp => ?_
  refine LWp.seq ?_
  refine LWp.rz hT hW ?_
  simp
  refine LWp.seq ?_
  refine LWp.ro hT hW (fun | 10 => some <| .plain ⟨.d (strsD (touches e)), true⟩ | _ => none) ?_
  simp
  refine ⟨etouches_ok e b1 b2, ?_⟩
  refine LWp.seq ?_
  refine LWp.rz hT hW ?_
  simp [names_take']
  refine ⟨by simp [touches], ?_⟩
  refine LWp.seq ?_
  refine LWp.seq ?_
  refine LWp.ro hT hW (fun | 18 => some <| .plain ⟨.d (.bool e.name.isName), true⟩ | 28 => some <| .plain ⟨.d (.bool (incr Nm.less e.needs)), true⟩ | 33 => some <| .plain ⟨.d (.bool (incr bless (e.puts.map Df.name))), true⟩ | 39 => some <| .plain ⟨.d (.bool (incr bless e.drops)), true⟩ | _ => none) ?_
  simp
  refine ⟨⟨⟨⟨possible_ok _, fun _ _ => incNm_ok _⟩, fun _ _ _ => by simpa [strsD] using incStr_ok (e.puts.map Df.name)⟩, fun _ _ _ _ => incStr_ok _⟩, ?_⟩
  refine LWp.iff ?_
  simp
  refine ⟨fun h3 => ?_, fun n1 n2 n3 n4 n5 => ?_⟩
  · refine LWp.seq ?_
    refine LWp.rz hT hW ?_
    simp
    refine LWp.ret ?_
    simp
    rcases h3 with (((h | h) | h) | h) | h
    · simp [properE, h]
    · have h : ¬ (touches e).length ≤ 24 := by omega
      simp [properE, h]
    · simp [properE, h]
    · simp [properE, h]
    · simp [properE, h]
  · refine LWp.skip ?_
    simp
    refine LWp.seq ?_
    refine LWp.seq ?_
    refine LWp.rz hT hW ?_
    simp
    refine LWp.block ?_
    refine LWp.loopW (ι := Nat) (fun i => mkEnv [(1, .bx 1 0), (3, .d (strsD (touches e))), (43, .d (nmsD e.needs)), (44, .d (I64 e.needs.length)), (45, .d (I64 i))]) (fun i => mkObs [(1, .box false ((cellsD e.d).map .d))]) (fun i => i ≤ e.needs.length ∧ Pre (fun n => !Nm.isName n) e.needs i) (fun i => e.needs.length - i) 0 (Weak.to [1, 3, 43, 44, 45] [(1, 1)] (by decide) (by decide) (by simp [hp]) (by simp) (by simp)) (⟨Nat.zero_le _, Pre.zero⟩) fun i hi6 => ?_
    refine LWp.len (t := 43) rfl fun hlen6 => ?_
    simp at hlen6
    refine LWp.seq ?_
    refine LWp.rz hT hW ?_
    simp
    refine LWp.seq ?_
    refine LWp.iff ?_
    simp
    refine ⟨fun h6 => ?_, fun h6 => ?_⟩
    · refine LWp.skip ?_
      simp
      refine LWp.seq ?_
      refine LWp.block ?_
      refine LWp.seq ?_
      refine LWp.rz hT hW ?_
      simp [h6]
      refine LWp.seq ?_
      refine LWp.ro hT hW (fun | 50 => some <| .plain ⟨.d (.bool e.needs[i].isName), true⟩ | _ => none) ?_
      simp
      refine ⟨possible_ok _, ?_⟩
      refine LWp.iff ?_
      simp
      refine ⟨fun h8 => ?_, fun h8 => ?_⟩
      · refine LWp.seq ?_
        refine LWp.rz hT hW ?_
        simp
        refine LWp.ret ?_
        simp
        have : e.needs.all Nm.isName = false := by
          rw [List.all_eq_false]
          exact ⟨_, List.getElem_mem h6, by simp [h8]⟩
        simp [properE, this]
      · refine LWp.skip ?_
        simp
        refine LWp.rz hT hW ?_
        simp
        refine ⟨by omega, ?_⟩
        refine loopQ.mk (i + 1) (Weak.to [1, 3, 43, 44, 45] [(1, 1)] (by decide) (by decide) (by simp [hp]) (by simp) (by simp)) ?_ ?_
        · exact ⟨h6, hi6.2.succ h6 (by simpa using h8)⟩
        · omega
    · refine LWp.exit ?_
      simp
      refine LWp.seq ?_
      refine LWp.seq ?_
      refine LWp.rz hT hW ?_
      simp
      refine LWp.block ?_
      refine LWp.loopW (ι := Nat) (fun k => mkEnv [(1, .bx 1 0), (3, .d (strsD (touches e))), (53, .d (strsD (touches e))), (54, .d (I64 (touches e).length)), (55, .d (I64 k))]) (fun k => mkObs [(1, .box false ((cellsD e.d).map .d))]) (fun k => k ≤ (touches e).length ∧ ∀ (j : Nat) (h : j < (touches e).length), j < k → okName (touches e) j h = true) (fun k => (touches e).length - k) 0 (Weak.to [1, 3, 53, 54, 55] [(1, 1)] (by decide) (by decide) (by simp [hp]) (by simp) (by simp)) (⟨Nat.zero_le _, fun j _ h => absurd h (Nat.not_lt_zero _)⟩) fun k hi12 => ?_
      refine LWp.len (t := 53) rfl fun hlen12 => ?_
      simp at hlen12
      refine LWp.seq ?_
      refine LWp.rz hT hW ?_
      simp
      refine LWp.seq ?_
      refine LWp.iff ?_
      simp
      refine ⟨fun h12 => ?_, fun h12 => ?_⟩
      · refine LWp.skip ?_
        simp
        refine LWp.seq ?_
        refine LWp.block ?_
        refine LWp.seq ?_
        refine LWp.rz hT hW ?_
        simp [h12]
        refine LWp.seq ?_
        refine LWp.ro hT hW (fun | 72 => some <| .plain ⟨.d (.bool (decide ((touches e).getD k default ∈ (touches e).take k))), true⟩ | _ => none) ?_
        simp [h12]
        refine ⟨⟨fun _ _ => by omega, fun _ _ => by simpa [strsD] using InStr_ok ((touches e).take k) (touches e)[k]⟩, ?_⟩
        refine LWp.iff ?_
        simp
        refine ⟨fun h14 => ?_, fun q1 q2 q3 => ?_⟩
        · refine LWp.seq ?_
          refine LWp.rz hT hW ?_
          simp
          refine LWp.ret ?_
          simp
          have : okNames (touches e) = false := by
            cases q : okNames (touches e) with
            | false => rfl
            | true =>
              have := okNames_iff.1 q k h12
              simp [okName] at this
              rcases h14 with (h | h) | h
              · exact absurd h this.1.1
              · omega
              · exact absurd h this.2
          simp [properE, this]
        · refine LWp.skip ?_
          simp
          refine LWp.rz hT hW ?_
          simp
          refine ⟨by omega, ?_⟩
          refine loopQ.mk (k + 1) (Weak.to [1, 3, 53, 54, 55] [(1, 1)] (by decide) (by decide) (by simp [hp]) (by simp) (by simp)) ?_ ?_
          · refine ⟨h12, fun j hj hjk => ?_⟩
            by_cases hjk' : j = k
            · subst hjk'
              simp [okName, q1, q3, show (touches e)[j].length ≤ 16 by omega]
            · exact hi12.2 j hj (by omega)
          · omega
      · refine LWp.exit ?_
        simp
        refine LWp.seq ?_
        refine LWp.ro hT hW (fun | 77 => some <| .plain ⟨.d (.bool (e.puts.any fun d => decide (d.text.length > 1024))), true⟩ | _ => none) ?_
        simp
        refine ⟨AnyDf_ok _ _ _ _ fun d _ => proper1_ok d, ?_⟩
        refine LWp.ret ?_
        simp
        have h1 : e.needs.all Nm.isName = true := by
          have := hi6.2.any (by omega)
          simpa using this
        have h2 : okNames (touches e) = true := okNames_iff.2 fun j hj => hi12.2 j hj (by omega)
        have h3 : (touches e).length ≤ 24 := by omega
        simp only [properE, n1, n3, n4, n5, h1, h2, h3, decide_true, Bool.true_and, Bool.and_self]
        rw [Bool.eq_iff_iff]
        simp
open Go.Proofs
theorem Valid1_ok (l : List Ed) (n : Nm) : Ok Tryz.prog 94 [n.d, .ro [edsD l]] ⟨.d (.bool (decide (findI l n < 0))), true⟩ := by
  refine Ok.ret Tryz.func94 (by kernel_rfl) (c := _) rfl Tryz.ntmps94 (by simp) Tryz.results94 (by intro _ h; cases h) fun w0 X hp => ?_
  refine LWp.seq ?_
  refine LWp.rz hT hW ?_
  simp
  refine LWp.seq ?_
  refine LWp.ro hT hW (fun | 6 => some <| .plain ⟨.d (I64 (findI l n)), true⟩ | _ => none) ?_
  simp
  refine ⟨EFind_ok l n, ?_⟩
  refine LWp.ret ?_
  simp
def small (l : List Ed) : Prop := ∀ e ∈ l, e.puts.length ≤ 1100000 ∧ e.drops.length ≤ 1100000
theorem EValid_ok (l : List Ed) (hs : small l) : Ok Tryz.prog 48 [edsD l] ⟨.tup [.d (I64 (validV l).1), .d (I64 (validV l).2)], true⟩ := by
  refine Ok.two Tryz.func48 (by kernel_rfl) (c := _) rfl Tryz.ntmps48 (by simp) Tryz.results48 rfl fun w0 X hp => ?_
  refine LWp.len (t := 0) rfl fun hlen => ?_
  simp at hlen
  refine LWp.seq ?_
  refine LWp.rz hT hW ?_
  simp
  refine LWp.seq ?_
  refine LWp.seq ?_
  refine LWp.rz hT hW ?_
  simp
  refine LWp.iff ?_
  simp
  refine ⟨fun h1 => ?_, fun h1 => ?_⟩
  · refine LWp.seq ?_
    refine LWp.rz hT hW ?_
    simp
    refine LWp.ret ?_
    have : 64 < l.length := by omega
    simp [validV, this]
  · refine LWp.skip ?_
    simp
    refine LWp.seq ?_
    refine LWp.seq ?_
    refine LWp.rz hT hW ?_
    simp
    refine LWp.block ?_
    refine LWp.loopW (ι := Nat) (fun i => mkEnv [(1, .bx 1 0), (9, .d (edsD l)), (10, .d (I64 l.length)), (11, .d (I64 i))]) (fun i => mkObs [(1, .box false [.d (edsD l)])]) (fun i => i ≤ l.length ∧ validFrom l (l.drop i) i = validFrom l l 0) (fun i => l.length - i) 0 (Weak.to [1, 9, 10, 11] [(1, 1)] (by decide) (by decide) (by simp [hp]) (by simp) (by simp)) (by simp) fun i hi4 => ?_
    refine LWp.seq ?_
    refine LWp.rz hT hW ?_
    simp
    refine LWp.seq ?_
    refine LWp.iff ?_
    simp
    refine ⟨fun h4 => ?_, fun h4 => ?_⟩
    · refine LWp.skip ?_
      simp
      refine LWp.seq ?_
      refine LWp.block ?_
      refine LWp.seq ?_
      refine LWp.rz hT hW ?_
      simp [h4]
      refine LWp.block ?_
      refine LWp.seq ?_
      refine LWp.ro hT hW (fun | 18 => some <| .plain ⟨.d (.bool (properE l[i])), true⟩ | _ => none) ?_
      simp [h4]
      refine ⟨proper_ok l[i] (hs _ (List.getElem_mem h4)).1 (hs _ (List.getElem_mem h4)).2, ?_⟩
      refine LWp.iff ?_
      simp
      refine ⟨fun h6 => ?_, fun h6 => ?_⟩
      · refine LWp.seq ?_
        refine LWp.rz hT hW ?_
        simp
        refine LWp.ret ?_
        have hl : ¬ 64 < l.length := by omega
        have e : errE l i l[i] = 1 := by simp [errE, h6]
        have hv := validFrom_stop h4 (by rw [e]; decide)
        rw [hi4.2, e] at hv
        simp [validV, hl, hv]
      · refine LWp.seq ?_
        refine LWp.ro hT hW (fun | 25 => some <| .plain ⟨.d (I64 (findI l l[i].name)), true⟩ | _ => none) ?_
        simp
        refine ⟨EFind_ok l l[i].name, ?_⟩
        refine LWp.iff ?_
        simp
        refine ⟨fun h8 => ?_, fun h8 => ?_⟩
        · refine LWp.seq ?_
          refine LWp.rz hT hW ?_
          simp
          refine LWp.ret ?_
          have hl : ¬ 64 < l.length := by omega
          have e : errE l i l[i] = 7 := by simp [errE, h6, h8]
          have hv := validFrom_stop h4 (by rw [e]; decide)
          rw [hi4.2, e] at hv
          simp [validV, hl, hv]
        · refine LWp.seq ?_
          refine LWp.ro hT hW (fun | 33 => some <| .plain ⟨.d (.bool (l[i].needs.any fun n => decide (findI l n < 0))), true⟩ | _ => none) ?_
          simp
          refine ⟨AnyNm_ok _ _ _ _ fun n _ => Valid1_ok l n, ?_⟩
          refine LWp.iff ?_
          simp
          refine ⟨fun n10 hm10 hl10 => ?_, fun h10 => ?_⟩
          · have h10 : l[i].needs.any (fun n => decide (findI l n < 0)) = true := List.any_eq_true.2 ⟨n10, hm10, by simpa using hl10⟩
            refine LWp.seq ?_
            refine LWp.rz hT hW ?_
            simp
            refine LWp.ret ?_
            have hl : ¬ 64 < l.length := by omega
            have k8 : ¬ findI l l[i].name < i := by omega
            have k10 : l[i].needs.any (fun n => decide (findI l n < 0)) = true := h10
            have e : errE l i l[i] = 6 := by simp [errE, h6, k8, k10]
            have hv := validFrom_stop h4 (by rw [e]; decide)
            rw [hi4.2, e] at hv
            simp [validV, hl, hv]
          · refine LWp.seq ?_
            refine LWp.ro hT hW (fun | 41 => some <| .plain ⟨.d (.bool (decide (l[i].name ∈ aboveL l l[i].name))), true⟩ | _ => none) ?_
            simp
            refine ⟨EBefore_ok l _ _, ?_⟩
            refine LWp.iff ?_
            simp
            refine ⟨fun h12 => ?_, fun h12 => ?_⟩
            · refine LWp.seq ?_
              refine LWp.rz hT hW ?_
              simp
              refine LWp.ret ?_
              have hl : ¬ 64 < l.length := by omega
              have k8 : ¬ findI l l[i].name < i := by omega
              have k10 : l[i].needs.any (fun n => decide (findI l n < 0)) = false := by simpa using h10
              have e : errE l i l[i] = 13 := by simp [errE, h6, k8, k10, h12]
              have hv := validFrom_stop h4 (by rw [e]; decide)
              rw [hi4.2, e] at hv
              simp [validV, hl, hv]
            · refine LWp.skip ?_
              simp
              refine LWp.rz hT hW ?_
              simp
              refine ⟨by omega, ?_⟩
              refine loopQ.mk (i + 1) (Weak.to [1, 9, 10, 11] [(1, 1)] (by decide) (by decide) (by simp [hp]) (by simp) (by simp)) ?_ ?_
              · refine ⟨h4, ?_⟩
                rw [← hi4.2, ← validFrom_step h4]
                have k8 : ¬ findI l l[i].name < i := by omega
                have k10 : l[i].needs.any (fun n => decide (findI l n < 0)) = false := by simpa using h10
                simp [errE, h6, k8, k10, h12]
              · omega
    · refine LWp.exit ?_
      simp
      refine LWp.seq ?_
      refine LWp.rz hT hW ?_
      simp
      refine LWp.ret ?_
      have hl : ¬ 64 < l.length := by omega
      have hv := validFrom_end (l := l) (i := i) (by omega)
      rw [hi4.2] at hv
      have q : i = l.length := by omega
      simp [validV, hl, hv, q]
end Go.Eng
namespace Go.Eng
def dedup {α : Type} [DecidableEq α] : List α → List α
  | a :: b :: r => if a = b then dedup (b :: r) else a :: dedup (b :: r)
  | l => l
theorem dedup_snoc {α : Type} [DecidableEq α] : ∀ (l : List α) (x : α) (h : l ≠ []), dedup (l ++ [x]) = if l.getLast h = x then dedup l else dedup l ++ [x]
  | [a], x, _ => by
    simp only [List.cons_append, List.nil_append, dedup, List.getLast_singleton]
    split <;> rename_i e <;> simp [e]
  | a :: b :: r, x, _ => by
    have ih := dedup_snoc (b :: r) x (by simp)
    have hl : (a :: b :: r).getLast (by simp) = (b :: r).getLast (by simp) := by simp
    rw [hl]
    simp only [List.cons_append] at ih ⊢
    simp only [dedup]
    rw [ih]
    by_cases h1 : a = b
    · simp only [if_pos h1]
    · simp only [if_neg h1]
      split <;> rfl
theorem take_last {α : Type} {l : List α} {p : Nat} (h0 : 0 < p) (hp : p ≤ l.length) (hne : l.take p ≠ []) : (l.take p).getLast hne = l[p - 1] := by
  rw [List.getLast_eq_getElem]
  simp [Nat.min_eq_left hp]
theorem dedup_take {α : Type} [DecidableEq α] {l : List α} {p : Nat} (h0 : 0 < p) (hp : p < l.length) : dedup (l.take (p + 1)) = if l[p - 1] = l[p] then dedup (l.take p) else dedup (l.take p) ++ [l[p]] := by
  have hne : l.take p ≠ [] := fun e => by have := congrArg List.length e; rw [List.length_take, List.length_nil] at this; omega
  have h1 : l.take (p + 1) = l.take p ++ [l[p]] := by simp
  rw [h1, dedup_snoc _ _ hne, take_last h0 (by omega)]
theorem dedup_length {α : Type} [DecidableEq α] : ∀ l : List α, (dedup l).length ≤ l.length
  | a :: b :: r => by
    have := dedup_length (b :: r)
    simp only [dedup]
    split
    · simp at *; omega
    · simp at *; omega
  | [] => Nat.le_refl _
  | [_] => Nat.le_refl _
theorem mem_dedup {α : Type} [DecidableEq α] {x : α} : ∀ l : List α, x ∈ dedup l ↔ x ∈ l
  | a :: b :: r => by
    have := mem_dedup (x := x) (b :: r)
    simp only [dedup]
    split
    · rename_i e
      rw [this]; subst e; simp
    · rw [List.mem_cons, this]; simp
  | [] => Iff.rfl
  | [_] => Iff.rfl
def Rising {α : Type} (lt : α → α → Bool) (l : List α) : Prop := l.Pairwise fun a b => lt a b = true
structure STO {α : Type} (lt : α → α → Bool) : Prop where
  irrefl : ∀ a, lt a a = false
  trans : ∀ a b c, lt a b = true → lt b c = true → lt a c = true
  total : ∀ a b, lt a b = false → lt b a = false → a = b
theorem STO.asym {α : Type} {lt : α → α → Bool} (O : STO lt) {a b : α} (h : lt a b = true) : lt b a = false := by
  cases q : lt b a with
  | false => rfl
  | true => have := O.trans a b a h q; rw [O.irrefl] at this; cases this
theorem rising_eq {α : Type} {lt : α → α → Bool} (O : STO lt) : ∀ {l m : List α}, Rising lt l → Rising lt m → (∀ x, x ∈ l ↔ x ∈ m) → l = m
  | [], [], _, _, _ => rfl
  | [], b :: m, _, _, h => by have := (h b).2 (by simp); cases this
  | a :: l, [], _, _, h => by have := (h a).1 (by simp); cases this
  | a :: l, b :: m, hl, hm, h => by
    have hl' := List.pairwise_cons.1 hl
    have hm' := List.pairwise_cons.1 hm
    have hab : a = b := by
      have h1 := (h a).1 (by simp)
      have h2 := (h b).2 (by simp)
      rcases List.mem_cons.1 h1 with h1 | h1
      · exact h1
      · rcases List.mem_cons.1 h2 with h2 | h2
        · exact h2.symm
        · have := O.asym (hl'.1 b h2)
          rw [hm'.1 a h1] at this; cases this
    subst hab
    rw [rising_eq O hl'.2 hm'.2 fun x => ?_]
    constructor
    · intro hx
      rcases List.mem_cons.1 ((h x).1 (by simp [hx])) with e | h'
      · subst e; have := hl'.1 x hx; rw [O.irrefl] at this; cases this
      · exact h'
    · intro hx
      rcases List.mem_cons.1 ((h x).2 (by simp [hx])) with e | h'
      · subst e; have := hm'.1 x hx; rw [O.irrefl] at this; cases this
      · exact h'
theorem dedup_rising {α : Type} [DecidableEq α] {lt : α → α → Bool} (O : STO lt) : ∀ {l : List α}, l.Pairwise (fun a b => lt b a = false) → Rising lt (dedup l)
  | [], _ => .nil
  | [_], _ => List.pairwise_singleton _ _
  | a :: b :: r, h => by
    have h' := List.pairwise_cons.1 h
    have ih := dedup_rising O h'.2
    simp only [dedup]
    split
    · exact ih
    · rename_i hne
      refine List.pairwise_cons.2 ⟨fun x hx => ?_, ih⟩
      have hx := (mem_dedup _).1 hx
      have h1 := h'.1 b (by simp)
      have hab : lt a b = true := by
        cases q : lt a b with
        | true => rfl
        | false => exact absurd (O.total a b q h1) hne
      rcases List.mem_cons.1 hx with rfl | hx
      · exact hab
      · have h2 := (List.pairwise_cons.1 h'.2).1 x hx
        cases q : lt b x with
        | true => exact O.trans _ _ _ hab q
        | false => have := O.total b x q h2; subst this; exact hab
theorem Nm.sto : STO Nm.less := by
  refine ⟨fun a => ?_, fun a b c h1 h2 => ?_, fun a b h1 h2 => ?_⟩
  · simp [Nm.less]
  · simp [Nm.less] at *; omega
  · cases a; cases b; simp [Nm.less] at *; omega
theorem mem_insAt {α : Type} {k : Nat} {x y : α} {out : List α} : y ∈ insAt k x out ↔ y = x ∨ y ∈ out := by
  unfold insAt
  rw [List.mem_append, List.mem_cons]
  conv => rhs; rw [← List.take_append_drop k out, List.mem_append]
  constructor
  · rintro (h | h | h) <;> simp [h]
  · rintro (h | h | h) <;> simp [h]
theorem rpos_spec {α : Type} {p : α → Bool} {out : List α} : ∀ k, k ≤ out.length → (∀ i (h : i < out.length), rpos p out k ≤ i → i < k → p out[i] = true) ∧ (∀ i (h : i < out.length), rpos p out k = i + 1 → p out[i] = false)
  | 0, _ => ⟨fun i _ _ h => by omega, fun i _ h => by simp [rpos] at h⟩
  | k + 1, hk => by
    have hlt : k < out.length := by omega
    obtain ⟨h1, h2⟩ := rpos_spec k (by omega) (p := p) (out := out)
    cases q : p out[k] with
    | true =>
      rw [rpos_go hlt q]
      refine ⟨fun i hi hle hik => ?_, h2⟩
      by_cases e : i = k
      · subst e; exact q
      · exact h1 i hi hle (by omega)
    | false =>
      have : rpos p out (k + 1) = k + 1 := rpos_stop fun i e hi => by
        have : i = k := by omega
        subst this; exact q
      rw [this]
      exact ⟨fun i _ h1 h2 => by omega, fun i hi e => by
        have : i = k := by omega
        subst this; exact q⟩
theorem ins_rising {α : Type} {lt : α → α → Bool} (O : STO lt) {out : List α} {x : α} (h : Rising lt out) (hx : x ∉ out) : Rising lt (insAt (rpos (fun y => lt x y) out out.length) x out) := by
  obtain ⟨h1, h2⟩ := rpos_spec (p := fun y => lt x y) (out := out) out.length (Nat.le_refl _)
  have hle := rpos_le (p := fun y => lt x y) (out := out) out.length
  generalize rpos (fun y => lt x y) out out.length = k at *
  have hout := List.pairwise_iff_getElem.1 h
  have below : ∀ i (hi : i < out.length), i < k → lt out[i] x = true := by
    intro i hi hik
    have hk1 : k - 1 < out.length := by omega
    have := h2 (k - 1) hk1 (by omega)
    have hlast : lt out[k - 1] x = true := by
      cases q : lt out[k - 1] x with
      | true => rfl
      | false => exact absurd (O.total _ _ this q) (fun e => hx (e ▸ List.getElem_mem hk1))
    by_cases e : i = k - 1
    · subst e; exact hlast
    · exact O.trans _ _ _ (hout i (k - 1) hi hk1 (by omega)) hlast
  unfold insAt
  refine List.pairwise_append.2 ⟨h.sublist (List.take_sublist _ _), List.pairwise_cons.2 ⟨fun y hy => ?_, h.sublist (List.drop_sublist _ _)⟩, fun y hy z hz => ?_⟩
  · obtain ⟨i, hi, rfl⟩ := List.getElem_of_mem hy
    simp at hi
    simp only [List.getElem_drop]
    exact h1 (k + i) (by omega) (by omega) (by omega)
  · obtain ⟨i, hi, rfl⟩ := List.getElem_of_mem hy
    simp at hi
    simp only [List.getElem_take]
    rcases List.mem_cons.1 hz with rfl | hz
    · exact below i (by omega) (by omega)
    · obtain ⟨j, hj, rfl⟩ := List.getElem_of_mem hz
      simp at hj
      simp only [List.getElem_drop]
      exact hout i (k + j) (by omega) (by omega) (by omega)
theorem sortN_spec (l : List Nm) : Rising Nm.less (sortN l) ∧ ∀ x, x ∈ sortN l ↔ x ∈ l := by
  unfold sortN
  have key : ∀ (l out : List Nm), Rising Nm.less out → Rising Nm.less (l.foldl sortStep out) ∧ ∀ x, x ∈ l.foldl sortStep out ↔ x ∈ out ∨ x ∈ l := by
    intro l
    induction l with
    | nil => intro out h; exact ⟨h, fun x => by simp⟩
    | cons a l ih =>
      intro out h
      simp only [List.foldl_cons]
      rw [show sortStep out a = if a ∈ out then out else insAt (rpos (fun y => a.less y) out out.length) a out from rfl]
      by_cases ha : a ∈ out
      · rw [if_pos ha]
        obtain ⟨h1, h2⟩ := ih out h
        refine ⟨h1, fun x => ?_⟩
        rw [h2 x, List.mem_cons]
        constructor
        · rintro (h | h) <;> simp [h]
        · rintro (h | rfl | h)
          · exact .inl h
          · exact .inl ha
          · exact .inr h
      · rw [if_neg ha]
        obtain ⟨h1, h2⟩ := ih _ (ins_rising Nm.sto h ha)
        refine ⟨h1, fun x => ?_⟩
        rw [h2 x, mem_insAt, List.mem_cons]
        constructor
        · rintro ((rfl | h) | h) <;> simp [*]
        · rintro (h | rfl | h) <;> simp [*]
  obtain ⟨h1, h2⟩ := key l [] .nil
  exact ⟨h1, fun x => by rw [h2 x]; simp⟩
theorem dedup_sorted {l s : List Nm} (hm : ∀ x, x ∈ s ↔ x ∈ l) (hs : s.Pairwise (fun a b => Nm.less b a = false)) : dedup s = sortN l := by
  obtain ⟨h1, h2⟩ := sortN_spec l
  exact rising_eq Nm.sto (dedup_rising Nm.sto hs) h1 fun x => by rw [mem_dedup, hm, h2]
def closedAt (l : List Ed) (set : List Nm) (n : Nm) : Bool := !(decide (findI l n < 0)) && (needsOf l n).all fun m => decide (m ∈ set)
def closedB (l : List Ed) (set : List Nm) : Bool := set.all (closedAt l set)
theorem closedB_false {l : List Ed} {set : List Nm} {i : Nat} (h : i < set.length) (e : closedAt l set set[i] = false) : closedB l set = false := List.all_eq_false.2 ⟨_, List.getElem_mem h, by simp [e]⟩
theorem closedB_true {l : List Ed} {set : List Nm} {i : Nat} (hi : Pre (fun n => !closedAt l set n) set i) (h : set.length ≤ i) : closedB l set = true := List.all_eq_true.2 fun x hx => by
  have := List.any_eq_false.1 (hi.any h) x hx
  simpa using this
end Go.Eng
namespace Go.Eng
open Go.Proofs
attribute [local simp] runL stepL evalG evalOp opLV constLV putEnv dstOk upd upds Res.plain Res.cond Res.fail evalBin evalUn seqQ blockQ argsEnv lookL lookH RetIs memless freshL evalPick evalMin bval bok evalLen evalIn strip whenC guardOps guardC slotsOf
  runM foldS stepI stepM maskE wrIn lk renO lookN evalCall evalCallee optAll resLV resObj retLV retObj retsLV retsObj evalLoad evalIndexAddr evalField solid cellsD_agg cellsD_int cellsD_bool cellsD_str cellsD_sl cellsD_ro cellsD_fn cellsL_agg cellsL_dagg cellsL_int cellsL_bool cellsL_str cellsL_sl cellsL_fn cellsL_ow cellsL_bx cellsL_lfn cellsL_nl takeL takeD mkAgg allD eqD eqDs kindsAre kindIs LObj.live TK.isNone TK.agg TK.isBool TK.isStr TK.isStruct Op.operands Call.operands
  evalBuildSlice evalAppend elemsOf evalStore evalBuild fillL lookupF putL evalSlice bound evalConv elemsS freezes frozen loadR
  mkEnv_at mkObs_at close_d close_agg close_ow close_bx close_fn close_nl touch_d touch_agg touch_ow touch_bx touch_fn touch_nl ren_d ren_agg ren_bx ren_rp ren_ow ren_fn ren_nl ren_junk retQ_ret retQ2_ret condQ_bool Nm.d Df.d Ed.d nmsD dfsD strsD edsD retC_ret nm_eq df_eq take_map_len take_map_app
  nm_t nm_d nm_td df_t df_d df_td str_t str_d str_td ed_t ed_d ed_td
  evalAppendIn evalBuildSliceC evalCopyC shortL evalApart evalAppendC evalAppendZ evalAppendG evalCapC isOc TK.isInt close_oc touch_oc ren_oc cellsL_oc evalCut evalClear evalCopy evalMake evalWrap evalCap evalNil isNilC lenL isInp gorc gorc2
  mapOf findD keyEq keyOk evalMakeMap evalRange zeroD zeroDV argsG shutG outN lenv retG0_ret retG0_normal retG1_ret retGR_ret renO close_mp touch_mp ren_mp optAll_d optAll_d' touch_ds cellsL_mp cellsD_mp cellsL_dmp
  evalMapSet evalPtr TK.isPtr evalToArr firstL retN_ret retsQ rvarL close_bm touch_bm ren_bm cellsD_bm cellsL_bm cellsL_lbm
theorem Closed1_ok (l : List Nm) (n : Nm) : Ok Tryz.prog 96 [n.d, .ro [nmsD l]] ⟨.d (.bool (!decide (n ∈ l))), true⟩ := by
  refine Ok.ret Tryz.func96 (by kernel_rfl) (c := _) rfl Tryz.ntmps96 (by simp) Tryz.results96 (by intro _ h; cases h) fun w0 X hp => ?_
  refine LWp.seq ?_
  refine LWp.rz hT hW ?_
  simp
  refine LWp.seq ?_
  refine LWp.ro hT hW (fun | 6 => some <| .plain ⟨.d (.bool (decide (n ∈ l))), true⟩ | _ => none) ?_
  simp
  refine ⟨InNm_ok l n, ?_⟩
  refine LWp.ret ?_
  simp
theorem EClosed_ok (l : List Ed) (set : List Nm) : Ok Tryz.prog 49 [edsD l, nmsD set] ⟨.d (.bool (closedB l set)), true⟩ := by
  refine Ok.ret Tryz.func49 (by kernel_rfl) (c := _) rfl Tryz.ntmps49 (by simp) Tryz.results49 (by intro _ h; cases h) fun w0 X hp => ?_
  refine LWp.len (t := 1) rfl fun hlen => ?_
  simp at hlen
  refine LWp.seq ?_
  refine LWp.rz hT hW ?_
  simp
  refine LWp.seq ?_
  refine LWp.seq ?_
  refine LWp.rz hT hW ?_
  simp
  refine LWp.block ?_
  refine LWp.loopW (ι := Nat) (fun i => mkEnv [(0, .d (edsD l)), (3, .bx 3 0), (8, .d (nmsD set)), (9, .d (I64 set.length)), (10, .d (I64 i))]) (fun i => mkObs [(3, .box false [.d (nmsD set)])]) (fun i => i ≤ set.length ∧ Pre (fun n => !closedAt l set n) set i) (fun i => set.length - i) 0 (Weak.to [0, 3, 8, 9, 10] [(3, 3)] (by decide) (by decide) (by simp [hp]) (by simp) (by simp)) (⟨Nat.zero_le _, Pre.zero⟩) fun i hi2 => ?_
  refine LWp.seq ?_
  refine LWp.rz hT hW ?_
  simp
  refine LWp.seq ?_
  refine LWp.iff ?_
  simp
  refine ⟨fun h2 => ?_, fun h2 => ?_⟩
  · refine LWp.skip ?_
    simp
    refine LWp.seq ?_
    refine LWp.block ?_
    refine LWp.seq ?_
    refine LWp.rz hT hW ?_
    simp [h2]
    refine LWp.seq ?_
    refine LWp.ro hT hW (fun | 16 => some <| .plain ⟨.d (I64 (findI l set[i])), true⟩ | _ => none) ?_
    simp
    refine ⟨EFind_ok l set[i], ?_⟩
    refine LWp.seq ?_
    rcases Int.lt_or_le (findI l set[i]) 0 with hneg | hneg
    · refine LWp.reg hT hW (fun _ => none) (by intro d; first | exact ⟨rfl, fun _ h => h⟩ | (split <;> exact ⟨rfl, fun _ h => h⟩)) ?_
      simp [hneg]
      refine LWp.iff ?_
      simp [hneg]
      refine LWp.seq ?_
      refine LWp.rz hT hW ?_
      simp
      refine LWp.ret ?_
      simp
      exact closedB_false h2 (by simp [closedAt, hneg])
    · obtain ⟨i0, hi0, hfi, hfe, hne⟩ := edit_find (show ¬ findI l set[i] < 0 by omega)
      refine LWp.ro hT hW (fun | 26 => some <| .plain ⟨.d (.bool (l[i0].needs.any fun m => !decide (m ∈ set))), true⟩ | _ => none) ?_
      simp [hfe, hi0]
      refine ⟨AnyNm_ok _ _ _ _ fun n _ => Closed1_ok set n, ?_⟩
      refine LWp.iff ?_
      simp
      refine ⟨fun h5 => ?_, fun h5 => ?_⟩
      · refine LWp.seq ?_
        refine LWp.rz hT hW ?_
        simp
        refine LWp.ret ?_
        simp
        refine closedB_false h2 ?_
        have : ¬ findI l set[i] < 0 := by omega
        simp [closedAt, this, hne]
        rcases h5 with h | h
        · omega
        · exact h
      · refine LWp.skip ?_
        simp
        refine LWp.rz hT hW ?_
        simp
        refine ⟨by omega, ?_⟩
        refine loopQ.mk (i + 1) (Weak.to [0, 3, 8, 9, 10] [(3, 3)] (by decide) (by decide) (by simp [hp]) (by simp) (by simp)) ?_ ?_
        · refine ⟨h2, hi2.2.succ h2 ?_⟩
          have : ¬ findI l set[i] < 0 := by omega
          simp [closedAt, this, hne]
          exact h5
        · omega
  · refine LWp.exit ?_
    simp
    refine LWp.seq ?_
    refine LWp.rz hT hW ?_
    simp
    refine LWp.ret ?_
    simp
    exact closedB_true hi2.2 h2
theorem CloneNm_ok (l : List Nm) (hl : l.length ≤ 8000000000000) : Ok Tryz.prog 80 [nmsD l] ⟨.own 2 (l.map Nm.d), true⟩ := by
  refine Ok.ret Tryz.func80 (by kernel_rfl) (c := _) rfl Tryz.ntmps80 (by simp) Tryz.results80 (by intro _ h; cases h) fun w0 X hp => ?_
  refine LWp.seq ?_
  refine LWp.rz hT hW ?_
  simp
  refine LWp.seq ?_
  refine LWp.seq ?_
  refine LWp.regNil hT hW 4 (decide (l = [])) (fun _ => none) (fun _ => ⟨rfl, fun _ h => h⟩) (by kernel_rfl) fun b1 hb1 => ?_
  simp
  refine LWp.iff ?_
  simp
  refine ⟨fun h1 => ?_, fun h1 => ?_⟩
  · refine LWp.seq ?_
    refine LWp.rz hT hW ?_
    simp
    refine LWp.ret ?_
    have := hb1 h1
    simp at this
    simp [this]
  · refine LWp.skip ?_
    simp
    refine LWp.seq ?_
    refine LWp.rz hT hW ?_
    simp
    refine ⟨by omega, ?_⟩
    refine LWp.ret ?_
    simp
theorem del_row {b t : List DV} {n k : Nat} (hn : b.length = n) (hk : k < n) (z : DV) :
    List.take (n - 1) (List.take k (b ++ t) ++ (List.take (n - (k + 1)) (List.drop (k + 1) (b ++ t)) ++ List.drop (k + (n - (k + 1))) (b ++ t))) ++ z :: List.drop (n - 1 + 1) (List.take k (b ++ t) ++ (List.take (n - (k + 1)) (List.drop (k + 1) (b ++ t)) ++ List.drop (k + (n - (k + 1))) (b ++ t))) = b.eraseIdx k ++ z :: t := by
  have e0 : List.take k (b ++ t) = List.take k b := by rw [List.take_append_of_le_length (by omega)]
  have e1 : List.take (n - (k + 1)) (List.drop (k + 1) (b ++ t)) = List.drop (k + 1) b := by
    rw [List.drop_append_of_le_length (by omega), List.take_append_of_le_length (by simp; omega), List.take_of_length_le (by simp; omega)]
  have e2 : List.drop (k + (n - (k + 1))) (b ++ t) = List.drop (n - 1) b ++ t := by
    rw [show k + (n - (k + 1)) = n - 1 by omega, List.drop_append_of_le_length (by omega)]
  rw [e0, e1, e2, ← List.append_assoc, ← List.eraseIdx_eq_take_drop_succ]
  have hl : (b.eraseIdx k).length = n - 1 := by rw [List.length_eraseIdx]; simp [hn, hk]
  rw [List.take_append_of_le_length (by omega), List.take_of_length_le (by omega), ← List.append_assoc, List.drop_append_of_le_length (by simp [hl, hn]; omega), List.drop_eq_nil_of_le (by simp [hl, hn]; omega), List.nil_append]
theorem map_erase {α β : Type} (f : α → β) (l : List α) (k : Nat) : (l.map f).eraseIdx k = (l.eraseIdx k).map f := by
  rw [List.eraseIdx_eq_take_drop_succ, List.eraseIdx_eq_take_drop_succ, List.map_append, List.map_take, List.map_drop]
theorem nmt_td {l : List Nm} {t : List DV} (ht : ∀ y ∈ t, (cellsD y).length = 2) {n k : Nat} : (∀ y ∈ List.take n (List.drop k (List.map Nm.d l ++ t)), (cellsD y).length = 2) ↔ True := iff_true_intro fun y hy => by
  rcases List.mem_append.1 (mem_part hy) with h | h
  · exact (nm_mem h).1
  · exact ht y h
theorem DeleteNm_ok (l : List Nm) (t : List DV) (ht : ∀ y ∈ t, (cellsD y).length = 2) (k : Nat) (hk : k < l.length) : OkG Tryz.prog 101 [.ow 0 0 l.length, .d (I64 k), .d (I64 (k + 1))] [(0, .row false 2 (l.map Nm.d ++ t))] [(0, .row false 2 ((l.eraseIdx k).map Nm.d ++ Nm.d ⟨0, 0⟩ :: t))] (.ow 0 0 (l.length - 1)) := by
  refine OkG.one Tryz.func101 (by kernel_rfl) (c := _) rfl Tryz.ntmps101 (by simp) Tryz.results101 fun w0 X hp => ?_
  refine LWp.seq ?_
  refine LWp.rz hT hW ?_
  simp
  refine LWp.seq ?_
  refine LWp.ro hT hW (fun | 13 => some .inp | _ => none) ?_
  simp
  refine ⟨by omega, ?_⟩
  refine LWp.seq ?_
  refine LWp.seq ?_
  refine LWp.rz hT hW ?_
  simp [(show ¬ ((k : Int) = (k : Int) + 1) by omega)]
  refine LWp.iff ?_
  simp
  refine LWp.skip ?_
  simp
  refine LWp.seq ?_
  refine LWp.rz hT hW ?_
  simp
  refine LWp.seq ?_
  refine LWp.regAny hT hW hMixed (lk [[],[],[0,1],[],[],[3,4],[0,1,2,3,4,5],[0,1,2,3,4,5,6]]) (lk [[],[],[],[],[],[],[],[]]) (lk [[],[],[],[],[],[],[0,26],[]]) (by kernel_rfl) (fun | 26 => some .inp | _ => none) (by intro d; first | exact ⟨rfl, fun _ h => h⟩ | (split <;> exact ⟨rfl, fun _ h => h⟩)) ?_
  simp [(show ((l.length : Int) - ((k : Int) + 1)).toNat = l.length - (k + 1) by omega), (show l.length - (k + 1) ≤ l.length + t.length - (k + 1) by omega), nmt_td ht]
  refine ⟨by omega, ?_⟩
  refine LWp.seq ?_
  refine LWp.rz hT hW ?_
  simp [(show ((k : Int) + ((l.length - (k + 1) : Nat) : Int)).toNat = l.length - 1 by omega), (show ((l.length : Int) - ((k : Int) + ((l.length - (k + 1) : Nat) : Int))).toNat = 1 by omega)]
  refine ⟨by omega, ?_⟩
  refine LWp.seq ?_
  refine LWp.rz hT hW ?_
  simp
  refine LWp.ret ?_
  simp
  refine Weak.to [6] [(0, 0)] (by decide) (by decide) (by simp [hp]) ?_ ?_
  · simp [show k + (l.length - (k + 1)) = l.length - 1 by omega]
  · simp
    rw [del_row (by simp) hk, map_erase]
def zeroNm : Nm := ⟨0, 0⟩
theorem dedup_one {l : List Nm} : dedup (l.take 1) = l.take 1 := by cases l <;> simp [dedup]
theorem dedup_small {l : List Nm} (h : l.length < 2) : dedup l = l := by
  match l, h with
  | [], _ => rfl
  | [_], _ => rfl
theorem drop_get {α : Type} {a b : List α} {p i : Nat} (h : a.drop p = b.drop p) (hp : p ≤ i) (ha : i < a.length) (hb : i < b.length) : a[i] = b[i] := by
  have h1 := congrArg (·[i - p]?) h
  simp only [List.getElem?_drop, show p + (i - p) = i by omega, List.getElem?_eq_getElem ha, List.getElem?_eq_getElem hb] at h1
  exact Option.some.inj h1
theorem CompactNm_ok (l : List Nm) (hl : l.length ≤ 8000000000000) : OkG Tryz.prog 127 [.ow 0 0 l.length] [(0, .row false 2 (l.map Nm.d))] [(0, .row false 2 ((dedup l).map Nm.d ++ List.replicate (l.length - (dedup l).length) zeroNm.d))] (.ow 0 0 (dedup l).length) := by
  refine OkG.one Tryz.func127 (by kernel_rfl) (c := _) rfl Tryz.ntmps127 (by simp) Tryz.results127 fun w0 X hp => ?_
  refine LWp.seq ?_
  refine LWp.rz hT hW ?_
  simp
  refine LWp.seq ?_
  refine LWp.seq ?_
  refine LWp.rz hT hW ?_
  simp
  refine LWp.iff ?_
  simp
  refine ⟨fun h1 => ?_, fun h1 => ?_⟩
  · refine LWp.seq ?_
    refine LWp.rz hT hW ?_
    simp
    refine LWp.ret ?_
    simp
    refine Weak.to [2] [(0, 0)] (by decide) (by decide) (by simp [hp]) ?_ ?_
    · simp [dedup_small (by omega : l.length < 2)]
    · simp [dedup_small (by omega : l.length < 2)]
  · refine LWp.skip ?_
    simp
    refine LWp.seq ?_
    refine LWp.seq ?_
    refine LWp.rz hT hW ?_
    simp
    refine LWp.block ?_
    refine LWp.loopW (ι := Nat) (fun k => mkEnv [(0, .ow 0 0 l.length), (3, .d (I64 k))]) (fun k => mkObs [(0, .row false 2 (l.map Nm.d))]) (fun k => 1 ≤ k ∧ k ≤ l.length ∧ dedup (l.take k) = l.take k) (fun k => l.length - k) 1 (Weak.to [0, 3] [(0, 0)] (by decide) (by decide) (by simp [hp]) (by simp) (by simp)) (⟨by omega, by omega, dedup_one⟩) fun k hi4 => ?_
    refine LWp.seq ?_
    refine LWp.seq ?_
    refine LWp.rz hT hW ?_
    simp
    refine LWp.iff ?_
    simp
    refine ⟨fun h4 => ?_, fun h4 => ?_⟩
    · refine LWp.skip ?_
      simp
      refine LWp.seq ?_
      refine LWp.block ?_
      refine LWp.seq ?_
      refine LWp.regAny hT hW hMixed (lk [[],[],[0,1],[0,1,2],[],[],[5],[4,5,6],[4,5,6,7],[0,1,2,3,4,5,6,7,8]]) (lk [[],[],[],[],[],[],[],[],[],[]]) (lk [[],[],[],[],[],[],[],[],[],[]]) (by kernel_rfl) (fun _ => none) (fun _ => ⟨rfl, fun _ h => h⟩) ?_
      simp [(show ((k : Int) - 1).toNat = k - 1 by omega), h4, (show k - 1 < l.length by omega)]
      refine ⟨by omega, ?_⟩
      refine LWp.iff ?_
      simp
      refine ⟨fun h6 => ?_, fun h6 => ?_⟩
      · refine LWp.seq ?_
        refine LWp.rz hT hW ?_
        simp
        refine ⟨by omega, ?_⟩
        refine LWp.seq ?_
        refine LWp.seq ?_
        refine LWp.rz hT hW ?_
        simp
        refine LWp.block ?_
        refine LWp.loopW (ι := Nat × Nat × List Nm) (fun ⟨q, k', r⟩ => mkEnv [(0, .ow 0 0 l.length), (3, .d (I64 k')), (4, .ow 0 k (l.length - k)), (5, .d (I64 q))]) (fun ⟨q, k', r⟩ => mkObs [(0, .row false 2 (r.map Nm.d))]) (fun ⟨q, k', r⟩ => 1 ≤ q ∧ k + q ≤ l.length ∧ 1 ≤ k' ∧ k' + 1 ≤ k + q ∧ r.length = l.length ∧ r.take k' = dedup (l.take (k + q)) ∧ r.drop (k + q - 1) = l.drop (k + q - 1)) (fun ⟨q, k', r⟩ => l.length - k - q) (1, k, l) (Weak.to [0, 3, 4, 5] [(0, 0)] (by decide) (by decide) (by simp [hp]) (by simp) (by simp)) (⟨by omega, by omega, by omega, by omega, rfl, by rw [dedup_take (by omega) h4, if_pos h6.symm, hi4.2.2], rfl⟩) fun ⟨q, k', r⟩ hi9 => ?_
        refine LWp.seq ?_
        refine LWp.seq ?_
        refine LWp.rz hT hW ?_
        simp
        refine LWp.iff ?_
        simp
        refine ⟨fun h9 => ?_, fun h9 => ?_⟩
        · refine LWp.skip ?_
          simp
          refine LWp.seq ?_
          refine LWp.block ?_
          refine LWp.seq ?_
          obtain ⟨g1, g2, g3, g4, g5, g6, g7⟩ := hi9
          have hq : k + q < l.length := by omega
          have e1 : r[k + q]'(by omega) = l[k + q] := drop_get g7 (by omega) (by omega) hq
          have e2 : r[k + (q - 1)]'(by omega) = l[k + (q - 1)] := drop_get g7 (by omega) (by omega) (by omega)
          refine LWp.regAny hT hW hMixed (lk [[],[],[0,1],[0,1,2],[],[],[5],[4,5,6],[4,5,6,7],[0,1,2,3,4,5,6,7,8]]) (lk [[],[],[],[],[],[],[],[],[],[]]) (lk [[],[],[],[],[],[],[],[],[],[]]) (by kernel_rfl) (fun _ => none) (fun _ => ⟨rfl, fun _ h => h⟩) ?_
          simp [(show ((q : Int) - 1).toNat = q - 1 by omega), (show k + q < r.length by omega), (show k + (q - 1) < r.length by omega), e1, e2]
          refine ⟨by omega, ?_⟩
          refine LWp.iff ?_
          simp
          refine ⟨fun h11 => ?_, fun h11 => ?_⟩
          · refine LWp.seq ?_
            refine LWp.rz hT hW ?_
            simp [(show k + q < r.length by omega), e1]
            refine ⟨by omega, ?_⟩
            refine LWp.rz hT hW ?_
            simp
            refine ⟨by omega, ?_⟩
            refine LWp.rz hT hW ?_
            simp
            refine ⟨by omega, ?_⟩
            refine loopQ.mk (q + 1, k' + 1, r.set k' l[k + q]) (Weak.to [0, 3, 4, 5] [(0, 0)] (by decide) (by decide) (by simp [hp]) (by simp) (by simp)) ?_ ?_
            · have hk' : k' < r.length := by omega
              have e3 : ¬ l[k + q - 1] = l[k + q] := fun e => h11 (by rw [← e]; congr 1; omega)
              dsimp only
              refine ⟨by omega, by omega, by omega, by omega, by simp [g5], ?_, ?_⟩
              · rw [List.take_succ_eq_append_getElem (by simpa using hk'), List.getElem_set_self, List.take_set_of_le (by omega), g6, ← Nat.add_assoc, dedup_take (by omega) hq, if_neg e3]
              · have g8 := congrArg (List.drop 1) g7
                rw [List.drop_drop, List.drop_drop, show k + q - 1 + 1 = k + q by omega] at g8
                rw [show k + (q + 1) - 1 = k + q by omega, List.drop_set_of_lt (by omega), g8]
            · omega
          · refine LWp.skip ?_
            simp
            refine LWp.rz hT hW ?_
            simp
            refine ⟨by omega, ?_⟩
            refine loopQ.mk (q + 1, k', r) (Weak.to [0, 3, 4, 5] [(0, 0)] (by decide) (by decide) (by simp [hp]) (by simp) (by simp)) ?_ ?_
            · have e3 : l[k + q - 1] = l[k + q] := by rw [h11]; congr 1; omega
              dsimp only
              refine ⟨by omega, by omega, by omega, by omega, g5, ?_, ?_⟩
              · rw [g6, ← Nat.add_assoc, dedup_take (by omega) hq, if_pos e3]
              · have g8 := congrArg (List.drop 1) g7
                rw [List.drop_drop, List.drop_drop, show k + q - 1 + 1 = k + q by omega] at g8
                rw [show k + (q + 1) - 1 = k + q by omega, g8]
            · omega
        · refine LWp.exit ?_
          simp
          refine LWp.seq ?_
          refine LWp.rz hT hW ?_
          simp
          refine ⟨by omega, ?_⟩
          refine LWp.seq ?_
          refine LWp.rz hT hW ?_
          simp
          refine ⟨by omega, ?_⟩
          refine LWp.ret ?_
          simp
          obtain ⟨g1, g2, g3, g4, g5, g6, g7⟩ := hi9
          have hq : k + q = l.length := by omega
          rw [hq, List.take_length] at g6
          have hkl : (dedup l).length = k' := by rw [← g6]; simp; omega
          refine Weak.to [2] [(0, 0)] (by decide) (by decide) (by simp [hp]) ?_ ?_
          · simp [hkl]
          · have hd : List.drop (k' + (l.length - k')) (List.map Nm.d r) = [] := List.drop_eq_nil_of_le (by simp; omega)
            simp
            rw [hd, hkl, ← g6, List.map_take, List.append_nil]
            rfl
      · refine LWp.skip ?_
        simp
        refine LWp.rz hT hW ?_
        simp
        refine ⟨by omega, ?_⟩
        refine loopQ.mk (k + 1) (Weak.to [0, 3] [(0, 0)] (by decide) (by decide) (by simp [hp]) (by simp) (by simp)) ?_ ?_
        · have e6 : ¬ l[k - 1] = l[k] := fun e => h6 e.symm
          exact ⟨by omega, h4, by rw [dedup_take (by omega) h4, if_neg e6, hi4.2.2]; simp⟩
        · omega
    · refine LWp.exit ?_
      simp
      refine LWp.seq ?_
      refine LWp.rz hT hW ?_
      simp
      refine LWp.ret ?_
      simp
      have q : k = l.length := by omega
      have e := hi4.2.2
      rw [q, List.take_length] at e
      refine Weak.to [2] [(0, 0)] (by decide) (by decide) (by simp [hp]) ?_ ?_
      · simp [e]
      · simp [e]
end Go.Eng
namespace Go.Eng
def Acyc (l : List Ed) : Prop := ∀ n, ¬ Reach l n n
def readyN (l : List Ed) (out : List Nm) (n : Nm) : Bool := (needsOf l n).all fun m => decide (m ∈ out)
def orderF (l : List Ed) : Nat → List Nm → List Nm → List Nm
  | 0, _, out => out
  | f + 1, rest, out => match rest.findIdx? (readyN l out) with
    | some k => orderF l f (rest.eraseIdx k) (out ++ [rest.getD k default])
    | none => out
def orderN (l : List Ed) (set : List Nm) : List Nm := orderF l (sortN set).length (sortN set) []
theorem orderF_succ {l : List Ed} {f : Nat} {rest out : List Nm} {k : Nat} (h : rest.findIdx? (readyN l out) = some k) (hk : k < rest.length) : orderF l (f + 1) rest out = orderF l f (rest.eraseIdx k) (out ++ [rest[k]]) := by
  simp only [orderF, h]
  simp [hk]
def dep (l : List Ed) (n : Nm) : Nat := ((allNeeds l).filter fun x => decide (x ∈ aboveL l n)).length
theorem dep_lt {l : List Ed} {n m : Nm} (h : m ∈ needsOf l n) (ha : ¬ Reach l m m) : dep l m < dep l n :=
  filter_lt (m := m) (fun x hx => by simp [mem_aboveL] at hx ⊢; exact .next h hx) (needs_all h) (by simp [mem_aboveL]; exact .one h) (by simp [mem_aboveL, ha])
theorem ready_ex {l : List Ed} (ha : Acyc l) {rest out : List Nm} (hc : ∀ n ∈ rest, ∀ m ∈ needsOf l n, m ∈ rest ∨ m ∈ out) : ∀ (d : Nat) (n : Nm), n ∈ rest → dep l n < d → ∃ x ∈ rest, readyN l out x = true
  | 0, _, _, h => absurd h (Nat.not_lt_zero _)
  | d + 1, n, hn, hd => by
    cases q : readyN l out n with
    | true => exact ⟨n, hn, q⟩
    | false =>
      unfold readyN at q
      obtain ⟨m, hm, hmo⟩ := List.all_eq_false.1 q
      have hmo : m ∉ out := by simpa using hmo
      have hmr : m ∈ rest := (hc n hn m hm).resolve_right hmo
      exact ready_ex ha hc d m hmr (by have := dep_lt hm (ha m); omega)
theorem ready_at {l : List Ed} (ha : Acyc l) {rest out : List Nm} (hc : ∀ n ∈ rest, ∀ m ∈ needsOf l n, m ∈ rest ∨ m ∈ out) (h0 : 0 < rest.length) : ∃ k, rest.findIdx? (readyN l out) = some k ∧ k < rest.length := by
  obtain ⟨x, hx, hr⟩ := ready_ex ha hc (dep l (rest[0]) + 1) rest[0] (List.getElem_mem h0) (Nat.lt_succ_self _)
  cases q : rest.findIdx? (readyN l out) with
  | none => rw [List.findIdx?_eq_none_iff] at q; have := q x hx; rw [hr] at this; cases this
  | some k => exact ⟨k, rfl, (List.findIdx?_eq_some_iff_getElem.1 q).1⟩
theorem closed_step {l : List Ed} {rest out : List Nm} (hc : ∀ n ∈ rest, ∀ m ∈ needsOf l n, m ∈ rest ∨ m ∈ out) {k : Nat} (hk : k < rest.length) :
    ∀ n ∈ rest.eraseIdx k, ∀ m ∈ needsOf l n, m ∈ rest.eraseIdx k ∨ m ∈ out ++ [rest[k]] := by
  intro n hn m hm
  have hn' : n ∈ rest := List.mem_of_mem_eraseIdx hn
  rcases hc n hn' m hm with h | h
  · by_cases e : m = rest[k]
    · exact .inr (by simp [e])
    · refine .inl (List.mem_eraseIdx_iff_getElem.2 ?_)
      obtain ⟨i, hi, rfl⟩ := List.getElem_of_mem h
      exact ⟨i, hi, fun e' => e (by subst e'; rfl), rfl⟩
  · exact .inr (by simp [h])
theorem validFrom_ok {l : List Ed} : ∀ (r : List Ed) (i : Nat), (validFrom l r i).2 = 0 → ∀ (j : Nat) (h : j < r.length), errE l (i + j) r[j] = 0
  | [], _, _, j, h => absurd h (Nat.not_lt_zero _)
  | e :: r, i, hv, j, h => by
    simp only [validFrom] at hv
    split at hv
    · rename_i he
      cases j with
      | zero => simpa using he
      | succ j => have := validFrom_ok r (i + 1) hv j (by simpa using h); simpa [Nat.add_assoc, Nat.add_comm 1] using this
    · rename_i he; exact absurd hv he
theorem valid_err {l : List Ed} (h : (validV l).2 = 0) : l.length ≤ 64 ∧ ∀ (j : Nat) (hj : j < l.length), errE l j l[j] = 0 := by
  unfold validV at h
  split at h
  · cases h
  · rename_i hl
    exact ⟨by omega, fun j hj => by have := validFrom_ok l 0 h j hj; simpa using this⟩
theorem errE_zero {l : List Ed} {i : Nat} {e : Ed} (h : errE l i e = 0) : properE e = true ∧ (i : Int) ≤ findI l e.name ∧ (∀ n ∈ e.needs, 0 ≤ findI l n) ∧ e.name ∉ aboveL l e.name := by
  unfold errE at h
  split at h
  · cases h
  · rename_i h1
    split at h
    · cases h
    · rename_i h2
      split at h
      · cases h
      · rename_i h3
        split at h
        · cases h
        · rename_i h4
          refine ⟨by simpa using h1, by omega, fun n hn => ?_, h4⟩
          have := List.any_eq_false.1 (by simpa using h3 : (e.needs.any fun n => decide (findI l n < 0)) = false) n hn
          simp at this; exact this
theorem find_at {l : List Ed} {n : Nm} {i : Nat} (h : find? l n = some i) : ∃ hi : i < l.length, l[i].name = n ∧ needsOf l n = l[i].needs := by
  unfold find? at h
  obtain ⟨hi, h1, _⟩ := List.findIdx?_eq_some_iff_getElem.1 h
  refine ⟨hi, by simpa using h1, ?_⟩
  unfold needsOf find?
  rw [h]
  simp [hi]
theorem valid_acyc {l : List Ed} (h : (validV l).2 = 0) : Acyc l := by
  obtain ⟨_, he⟩ := valid_err h
  intro n hr
  have hne : needsOf l n ≠ [] := by
    cases hr with
    | one h => exact List.ne_nil_of_mem h
    | next h _ => exact List.ne_nil_of_mem h
  cases q : find? l n with
  | none => exact hne (by unfold needsOf; rw [q])
  | some i =>
    obtain ⟨hi, e1, _⟩ := find_at q
    have := (errE_zero (he i hi)).2.2.2
    rw [e1] at this
    exact this (mem_aboveL.2 hr)
def orderV (l : List Ed) (set : List Nm) : List Nm × Int := if (validV l).2 ≠ 0 then ([], (validV l).2) else if closedB l set = false then ([], 10) else (orderN l set, 0)
def closureV (l : List Ed) (set : List Nm) : List Nm × Int := if closedB l (set ++ set.flatMap (aboveL l)) = false then ([], 6) else (sortN (set ++ set.flatMap (aboveL l)), 0)
theorem closedB_mem {l : List Ed} {a b : List Nm} (h : ∀ x, x ∈ a ↔ x ∈ b) : closedB l a = closedB l b := by
  rw [Bool.eq_iff_iff]
  unfold closedB closedAt
  simp only [List.all_eq_true, Bool.and_eq_true, Bool.not_eq_true', decide_eq_false_iff_not, decide_eq_true_eq, h]
theorem sortN_mem {a b : List Nm} (h : ∀ x, x ∈ a ↔ x ∈ b) : sortN a = sortN b := by
  refine rising_eq Nm.sto (sortN_spec a).1 (sortN_spec b).1 fun x => ?_
  rw [(sortN_spec a).2, (sortN_spec b).2, h]
end Go.Eng
namespace Go.Eng
open Go.RowKit Go.Shelf Go.Sort Go.Proofs
theorem bel_grow {W w' : World} (h : Bel W.heap.size W w') : ∃ q os', w' = grow (W.drewN q) os' := by
  refine ⟨w'.drawn - W.drawn, w'.heap.extract W.heap.size w'.heap.size, ?_⟩
  obtain ⟨heap, tape, drawn, os, output⟩ := w'
  obtain ⟨h1, h2, h3, h4, h5, h6⟩ := h
  simp only at h1 h2 h3 h4 h5 h6
  subst h1; subst h2; subst h3
  unfold grow World.drewN
  congr 1
  · apply Array.ext_getElem?
    intro i
    rw [Array.getElem?_append]
    by_cases hi : i < W.heap.size
    · simp only [hi, if_true]; exact h5 i hi
    · simp only [hi, if_false]
      rw [Array.getElem?_extract]
      by_cases hj : i < heap.size
      · simp [show i - W.heap.size < heap.size - W.heap.size by omega, show W.heap.size + (i - W.heap.size) = i by omega]
      · simp [hj]; omega
  · simp only; omega
structure Cells {α : Type} (k : Nat) (d : α → DV) (enc : α → List Value) : Prop where
  pos : 0 < k
  len : ∀ x, (enc x).length = k
  lenD : ∀ x, (cellsD (d x)).length = k
  one : ∀ x, ∀ v ∈ enc x, v.oneCell' = true
  cell : ∀ (x : α) (i : Nat) (c : DV) (v : Value), (cellsD (d x))[i]? = some c → (enc x)[i]? = some v → ∀ w E u, RD w E c u ↔ u = v
theorem flatK_list {α : Type} [Inhabited α] {k : Nat} {d : α → DV} {enc : α → List Value} (C : Cells k d enc) (l : List α) : (flatK enc k l.toArray).toList = l.flatMap enc := by
  have hk := C.pos
  apply List.ext_getElem?
  intro i
  by_cases hi : i < l.length * k
  · have hlt : i / k < l.length := (Nat.div_lt_iff_lt_mul hk).2 hi
    have hm := Nat.mod_lt i hk
    have e1 : (l.flatMap enc)[i]? = (enc l[i / k])[i % k]? := by
      have key : ∀ (l : List α) (q r : Nat) (hq : q < l.length), r < k → (l.flatMap enc)[q * k + r]? = (enc l[q])[r]? := by
        intro l
        induction l with
        | nil => intro q r hq; simp at hq
        | cons x t ih =>
          intro q r hq hr
          simp only [List.flatMap_cons]
          cases q with
          | zero => rw [Nat.zero_mul, Nat.zero_add, List.getElem?_append_left (by rw [C.len]; exact hr)]; rfl
          | succ q =>
            rw [List.getElem?_append_right (by rw [C.len, Nat.add_mul]; omega), C.len, show (q + 1) * k + r - k = q * k + r by rw [Nat.add_mul]; omega]
            exact ih q r (by simpa using hq) hr
      have := key l (i / k) (i % k) hlt hm
      rw [show i / k * k + i % k = i by rw [Nat.mul_comm]; exact Nat.div_add_mod _ _] at this
      exact this
    rw [e1]
    have hr : i % k < (enc l[i / k]).length := by rw [C.len]; exact hm
    have e2 : (flatK enc k l.toArray)[i]? = some ((enc l.toArray[i / k]!)[i % k]!) := by simp [flatK, hi]
    rw [Array.getElem?_toList, e2, List.getElem?_eq_getElem hr]
    simp [hlt, hr]
  · rw [List.getElem?_eq_none (by simp [flatK]; omega), List.getElem?_eq_none]
    have : (l.flatMap enc).length = l.length * k := by
      clear hi
      induction l with
      | nil => simp
      | cons x t ih => simp only [List.flatMap_cons, List.length_append, C.len, ih, List.length_cons, Nat.add_mul]; omega
    omega
section
variable {P : Program} {ρ : Ren} {α : Type} [Inhabited α]
theorem flat_cells {α : Type} {k : Nat} {d : α → DV} {enc : α → List Value} (C : Cells k d enc) : ∀ (l : List α) (i : Nat) (c : DV) (v : Value), (flatD (l.map d))[i]? = some c → (l.flatMap enc)[i]? = some v → ∀ w E u, RD w E c u ↔ u = v
  | [], i, c, v, hc, _ => by simp [flatD] at hc
  | x :: t, i, c, v, hc, hv => by
    simp only [List.map_cons, flatD, List.flatMap_cons] at hc hv
    by_cases hi : i < k
    · rw [List.getElem?_append_left (by rw [C.lenD]; exact hi)] at hc
      rw [List.getElem?_append_left (by rw [C.len]; exact hi)] at hv
      exact C.cell x i c v hc hv
    · rw [List.getElem?_append_right (by rw [C.lenD]; omega), C.lenD] at hc
      rw [List.getElem?_append_right (by rw [C.len]; omega), C.len] at hv
      exact flat_cells C t (i - k) c v hc hv
theorem sortFunc_ok (L : SlLaysF0.n6 P ρ) {k : Nat} {d : α → DV} {enc : α → List Value} (C : Cells k d enc) (hagg : ∀ x w E v, RD w E (d x) v ↔ v = .agg (enc x).toArray) (aE : ∀ w, (isAgg (ρ.t 24)).run P w = .ok true w) (zE : ∀ w, (Go.sizeOf (ρ.t 24)).run P w = .ok k w) (cf : α → α → Int) (hO : SWO (ltOf cf))
    (hT : ∀ x y, (ltOf cf) x y = false → (ltOf cf) y x = false → x = y) (g : Nat) (hcmp : ∀ x y, Ok P g [d x, d y] ⟨.d (.int .i64 (cf x y)), true⟩) (hcl : Callable P (ρ.f 6)) (l : List α) (hl : l.length ≤ 8000000000000) :
    OkG P (ρ.f 6) [.ow 0 0 l.length, .d (.fn g [])] [(0, .row false k (l.map d))] [(0, .row false k ((l.mergeSort fun x y => !(ltOf cf) y x).map d))] (.tup []) := by
  have eg : ∀ args w, (callFunc g args).run P w = .ok (.enter g args) w := fun args w => by
    obtain ⟨fn, hf, hname, hb⟩ := (hcmp default default).1
    have h1 : fn.name ≠ "runtime.NumGoroutine" := by simpa using hname
    obtain ⟨c, hc⟩ := Option.isSome_iff_exists.1 hb
    simp [callFunc, hf, h1, hc]
  refine ⟨hcl, fun w X β vs m hvl hr => ?_⟩
  have hH : mkObs [(0, LObj.row false k (l.map d))] 0 = .row false k (l.map d) := by simp [mkObs, lookH]
  have hfin : ∀ o, mkObs [(0, o)] = upd (mkObs [(0, LObj.row false k (l.map d))]) 0 o := fun o => by
    funext j; simp only [mkObs, lookH, upd]; split <;> rfl
  generalize hHd : mkObs [(0, LObj.row false k (l.map d))] = H at *
  match vs, hvl with
  | [v0, v1], _ =>
  have r0 := hr 0 _ _ rfl rfl
  have r1 := hr 1 _ _ rfl rfl
  have e1 : v1 = .func (.func g) #[] #[] := by
    cases r1 with
    | d _ _ h => cases h with
      | fn _ _ us hl _ => have : us = [] := List.eq_nil_of_length_eq_zero hl; subst this; rfl
  subst e1
  have hlen : (l.map d).length = l.length := by simp
  rcases ow_cases m hH r0 with ⟨b, c, cur, e, rfl, hb, hkn, hn, hc, hblk, hroom, hcap⟩ | ⟨p, rfl, hz, _⟩
  · have hob := m.obj 0
    simp only [ObjR, hH] at hob
    obtain ⟨hpos, hall, hob⟩ := hob
    rcases hob with ⟨hnone, _⟩ | ⟨b', e', cur', hb', hblk', hlen', hpo⟩
    · rw [hnone] at hb; cases hb
    rw [hb] at hb'; injection hb' with hb'; subst hb'
    rw [hblk] at hblk'; injection hblk' with hblk'; injection hblk' with p1 p2; subst p1; subst p2
    have hfl : (l.flatMap enc).length = l.length * k := by
      rw [← flatK_list C l]; simp
    have hfd : (flatD (l.map d)).length = l.length * k := by rw [flat_len hall, hlen]
    rw [hlen] at hlen'
    have hhold : HoldsK enc k w b 0 l.toArray := by
      intro j hj
      simp only [size_flatK, List.size_toArray] at hj
      have hv : j < (l.flatMap enc).length := by omega
      have hg : (flatK enc k l.toArray)[j]! = (l.flatMap enc)[j] := by
        have : (flatK enc k l.toArray)[j]? = some ((l.flatMap enc)[j]) := by rw [← Array.getElem?_toList, flatK_list C l]; exact List.getElem?_eq_getElem hv
        simp [getElem!_def, this]
      have hjc : j < cur.size := by omega
      refine ⟨?_, ?_⟩
      · rw [cell_of_row w b _ cur e (0, 0) hblk, hg]
        have := (hpo j _ cur[j] (List.getElem?_eq_getElem (by omega)) (Array.getElem?_eq_getElem hjc)).2
        have := ((flat_cells C l j _ _ (List.getElem?_eq_getElem (by omega)) (List.getElem?_eq_getElem hv)) _ _ _).1 this
        simp only [Nat.zero_add, id]
        rw [Array.getElem?_eq_getElem hjc, this]
      · simp [World.frozen?, hblk]
    have hlb : b < w.heap.size := (Array.getElem?_eq_some_iff.1 hblk).1
    have hlays : CmpLays P g #[] enc k cf b 0 l.toArray.size w := fun q os dk _ x y => by
      refine ((hcmp x y).2 (sortWorldK enc k w b 0 q dk os) (fun _ => False) [.agg (enc x).toArray, .agg (enc y).toArray] (fun _ h => h.elim) ⟨rfl, fun i c v hc hv => ?_⟩).mono ?_
      · match i, hc, hv with
        | 0, hc, hv => simp at hc hv; subst hc; subst hv; exact (hagg x _ _ _).2 rfl
        | 1, hc, hv => simp at hc hv; subst hc; subst hv; exact (hagg y _ _ _).2 rfl
      · rintro e w' ⟨v, rfl, hbel, hret⟩
        refine ⟨?_, bel_grow hbel⟩
        obtain ⟨B, hB⟩ := hret
        cases hB; rfl
    have hcon := AnyQ.slices_SortFunc_total L k aE zE enc C.len C.one cf hO g #[] b 0 c l.toArray w eg hlays hhold hlb (by simp; omega) hT
    simp only [List.size_toArray] at hcon
    rw [show #[Value.slice (some ⟨b, 0, none⟩) l.length c, .func (.func g) #[] #[]] = [Value.slice (some ⟨b, 0 * k, none⟩) l.length c, .func (.func g) #[] #[]].toArray by rw [Nat.zero_mul]] at hcon
    refine hcon.mono ?_
    rintro ee w' ⟨rfl, n, os, rfl⟩
    generalize hs : (l.mergeSort fun x y => !(ltOf cf) y x) = s
    have hsl : s.length = l.length := by rw [← hs]; exact List.length_mergeSort _
    have hsf : (s.flatMap enc).length = l.length * k := by rw [← flatK_list C s]; simp [hsl]
    -- the row written
    have hput : (putRowK enc k (Sort.ahead w n) b 0 s.toArray).heap[b]? = some (.cells (putL 0 cur.toList (s.flatMap enc)).toArray e (0, 0)) := by
      have h1 : (putRowK enc k (Sort.ahead w n) b 0 s.toArray).heap[b]? = some (.cells (putCells id 0 (flatK enc k s.toArray) cur) e (0, 0)) := by
        unfold putRowK putRow mapBlock
        simp only [heap_ahead, Array.getElem?_modify, if_pos, hblk, Option.map_some]
        rfl
      rw [h1]
      congr 2
      apply Array.ext_getElem?
      intro i
      rw [show (putL 0 cur.toList (s.flatMap enc)).toArray[i]? = (putL 0 cur.toList (s.flatMap enc))[i]? from by simp, putL_get (by rw [Nat.zero_add, hsf]; simpa using hlen')]
      simp only [putCells, Array.getElem?_mapIdx, Nat.not_lt_zero, if_false, Nat.zero_add, size_flatK, List.size_toArray, hsl, hsf, Nat.sub_zero, Nat.zero_le, true_and]
      by_cases hi : i < l.length * k
      · have hic : i < cur.size := by omega
        simp only [hi, if_true, Array.getElem?_eq_getElem hic, Option.map_some, id]
        have hv : i < (s.flatMap enc).length := by omega
        have : (flatK enc k s.toArray)[i]? = some ((s.flatMap enc)[i]) := by rw [← Array.getElem?_toList, flatK_list C s]; exact List.getElem?_eq_getElem hv
        rw [List.getElem?_eq_getElem hv]
        simp [getElem!_def, this]
      · simp only [hi, if_false]
        rw [Array.getElem?_toList]
        cases cur[i]? <;> rfl
    have hother : ∀ j, j ≠ b → (putRowK enc k (Sort.ahead w n) b 0 s.toArray).heap[j]? = w.heap[j]? := fun j hj => by
      unfold putRowK putRow mapBlock
      simp only [heap_ahead, Array.getElem?_modify, Ne.symm hj, if_false]
    have hsize : (putRowK enc k (Sort.ahead w n) b 0 s.toArray).heap.size = w.heap.size := by unfold putRowK; simp
    have hpl : (putL 0 cur.toList (s.flatMap enc)).toArray.size = cur.size := by rw [List.size_toArray, putL_len (by rw [Nat.zero_add, hsf]; simpa using hlen')]; simp
    obtain ⟨m1, g1⟩ := m.rewriteG (id := 0) (b := b) (o' := .row false k (s.map d)) (w' := putRowK enc k (Sort.ahead w n) b 0 s.toArray) (by rw [hH]; rfl) hb rfl rfl rfl (Nat.le_add_right _ _) hsize hother (by
        unfold Passes
        rw [hH, upd_same]
        refine .inr ⟨⟨false, s.map d, rfl, by simp [hsl]⟩, rfl, fun b' c' t hbb hblk' => ?_⟩
        rw [hb] at hbb; injection hbb with hbb; subst hbb
        rw [hblk] at hblk'; injection hblk' with hblk'; injection hblk' with q1 q2; subst q1; subst q2
        exact ⟨_, e, hput, hpl⟩) (fun hD _ => by
        unfold ObjR
        rw [upd_same]
        refine ⟨hpos, fun x hx => by obtain ⟨y, _, rfl⟩ := List.mem_map.1 hx; exact C.lenD y, .inr ⟨b, e, _, hb, hput, by rw [hpl]; simpa [hsl] using hlen', fun i dd v hd hv => ?_⟩⟩
        have hfs : (flatD (s.map d)).length = l.length * k := by rw [flat_len (size := k) (fun x hx => by obtain ⟨y, _, rfl⟩ := List.mem_map.1 hx; exact C.lenD y)]; simp [hsl]
        have hi : i < l.length * k := by have := (List.getElem?_eq_some_iff.1 hd).1; omega
        rw [List.getElem?_toArray, putL_get (by rw [Nat.zero_add, hsf]; simpa using hlen'), if_neg (by omega), if_pos (by omega), Nat.sub_zero] at hv
        refine ⟨?_, ((flat_cells C s i dd v hd hv) _ _ _).2 rfl⟩
        obtain ⟨x, _, hx⟩ := List.mem_flatMap.1 (List.mem_of_getElem? hv)
        exact C.one x v hx)
    obtain ⟨m2, g2⟩ := m1.grow (w' := sortWorldK enc k w b 0 n s.toArray os) ⟨rfl, rfl, rfl, by unfold sortWorldK; simp, fun j hj => heap_grow_old _ _ hj, Nat.le_refl _⟩
    refine ⟨_, β, rfl, ?_, .tup [] [] rfl (by simp)⟩
    rw [hfin]
    exact m2
  · have hl0 : l = [] := List.eq_nil_of_length_eq_zero hz
    subst hl0
    refine (AnyF.slices_SortFunc_none (P := P) (ρ := ρ) { L with } p 0 (.func (.func g) #[] #[]) w).mono ?_
    rintro e w' ⟨rfl, rfl⟩
    refine ⟨_, β, rfl, ?_, .tup [] [] rfl (by simp)⟩
    rw [hfin]
    simp only [List.mergeSort_nil]
    rw [upd_id hH]
    exact m
end
end Go.Eng
namespace Go.Proofs
open Go.Shelf
def Tryz.sortNm_ren : Go.Shelf.Ren := ⟨fun | 6 => 125 | 15 => 158 | 14 => 163 | 28 => 182 | 29 => 183 | 20 => 184 | 21 => 185 | 22 => 186 | 23 => 187 | 24 => 188 | 25 => 189 | 26 => 190 | 27 => 191 | 46 => 201 | 47 => 196 | 48 => 197 | 49 => 202 | 50 => 203 | 57 => 206 | n => n, fun | 22 => 31 | 24 => 63 | 25 => 156 | 3 => 3 | 39 => 81 | 0 => 0 | 53 => 195 | 55 => 165 | 4 => 4 | 46 => 187 | 45 => 186 | 50 => 192 | 5 => 5 | 9 => 9 | 66 => 204 | 70 => 208 | 76 => 213 | 77 => 214 | n => n, fun | n => n⟩
theorem Tryz.sortNm : Go.Proofs.SlLaysF0.n6 Tryz.prog Tryz.sortNm_ren := {
  mixed := by kernel_rfl,
  f6 := ⟨Tryz.f125.name, by decide, Tryz.func125.trans (congrArg some (by kernel_rfl))⟩,
  f14 := ⟨Tryz.f163.name, by decide, Tryz.func163.trans (congrArg some (by kernel_rfl))⟩,
  f15 := Tryz.func158.trans (congrArg some (by kernel_rfl)),
  f20 := ⟨Tryz.f184.name, by decide, Tryz.func184.trans (congrArg some (by kernel_rfl))⟩,
  f21 := ⟨Tryz.f185.name, by decide, Tryz.func185.trans (congrArg some (by kernel_rfl))⟩,
  f22 := ⟨Tryz.f186.name, by decide, Tryz.func186.trans (congrArg some (by kernel_rfl))⟩,
  f23 := ⟨Tryz.f187.name, by decide, Tryz.func187.trans (congrArg some (by kernel_rfl))⟩,
  f24 := ⟨Tryz.f188.name, by decide, Tryz.func188.trans (congrArg some (by kernel_rfl))⟩,
  f25 := ⟨Tryz.f189.name, by decide, Tryz.func189.trans (congrArg some (by kernel_rfl))⟩,
  f26 := ⟨Tryz.f190.name, by decide, Tryz.func190.trans (congrArg some (by kernel_rfl))⟩,
  f27 := ⟨Tryz.f191.name, by decide, Tryz.func191.trans (congrArg some (by kernel_rfl))⟩,
  f28 := Tryz.func182.trans (congrArg some (by kernel_rfl)),
  f29 := Tryz.func183.trans (congrArg some (by kernel_rfl)),
  f46 := ⟨Tryz.f201.name, by decide, Tryz.func201.trans (congrArg some (by kernel_rfl))⟩,
  f47 := Tryz.func196.trans (congrArg some (by kernel_rfl)),
  f48 := Tryz.func197.trans (congrArg some (by kernel_rfl)),
  f49 := ⟨Tryz.f202.name, by decide, Tryz.func202.trans (congrArg some (by kernel_rfl))⟩,
  f50 := ⟨Tryz.f203.name, by decide, Tryz.func203.trans (congrArg some (by kernel_rfl))⟩,
  f57 := ⟨Tryz.f206.name, by decide, Tryz.func206.trans (congrArg some (by kernel_rfl))⟩,
  t0 := Tryz.underlying0,
  a0 := Tryz.isAgg0,
  z0 := Tryz.sizeOf0,
  v0 := Tryz.zeroValue0,
  t3 := Tryz.underlying3,
  a3 := Tryz.isAgg3,
  z3 := Tryz.sizeOf3,
  v3 := Tryz.zeroValue3,
  t4 := Tryz.underlying4,
  a4 := Tryz.isAgg4,
  z4 := Tryz.sizeOf4,
  v4 := Tryz.zeroValue4,
  t5 := Tryz.underlying5,
  a5 := Tryz.isAgg5,
  z5 := Tryz.sizeOf5,
  v5 := Tryz.zeroValue5,
  t9 := Tryz.underlying9,
  a9 := Tryz.isAgg9,
  z9 := Tryz.sizeOf9,
  v9 := Tryz.zeroValue9,
  t22 := Tryz.underlying31,
  a22 := Tryz.isAgg31,
  z22 := Tryz.sizeOf31,
  v22 := Tryz.zeroValue31,
  t25 := Tryz.underlying156,
  a25 := Tryz.isAgg156,
  z25 := Tryz.sizeOf156,
  v25 := Tryz.zeroValue156,
  t39 := Tryz.underlying81,
  a39 := Tryz.isAgg81,
  z39 := Tryz.sizeOf81,
  v39 := Tryz.zeroValue81,
  t45 := Tryz.underlying186,
  a45 := Tryz.isAgg186,
  z45 := Tryz.sizeOf186,
  v45 := Tryz.zeroValue186,
  t46 := Tryz.underlying187,
  a46 := Tryz.isAgg187,
  z46 := Tryz.sizeOf187,
  v46 := Tryz.zeroValue187,
  t50 := Tryz.underlying192,
  a50 := Tryz.isAgg192,
  z50 := Tryz.sizeOf192,
  v50 := Tryz.zeroValue192,
  t53 := Tryz.underlying195,
  a53 := Tryz.isAgg195,
  z53 := Tryz.sizeOf195,
  v53 := Tryz.zeroValue195,
  t55 := Tryz.underlying165,
  a55 := Tryz.isAgg165,
  z55 := Tryz.sizeOf165,
  v55 := Tryz.zeroValue165,
  t66 := Tryz.underlying204,
  a66 := Tryz.isAgg204,
  z66 := Tryz.sizeOf204,
  v66 := Tryz.zeroValue204,
  t70 := Tryz.underlying208,
  a70 := Tryz.isAgg208,
  z70 := Tryz.sizeOf208,
  v70 := Tryz.zeroValue208,
  t76 := Tryz.underlying213,
  a76 := Tryz.isAgg213,
  z76 := Tryz.sizeOf213,
  v76 := Tryz.zeroValue213,
  t77 := Tryz.underlying214,
  a77 := Tryz.isAgg214,
  z77 := Tryz.sizeOf214,
  v77 := Tryz.zeroValue214 }
end Go.Proofs
namespace Go.Eng
open Go.Proofs
attribute [local simp] runL stepL evalG evalOp opLV constLV putEnv dstOk upd upds Res.plain Res.cond Res.fail evalBin evalUn seqQ blockQ argsEnv lookL lookH RetIs memless freshL evalPick evalMin bval bok evalLen evalIn strip whenC guardOps guardC slotsOf
  runM foldS stepI stepM maskE wrIn lk renO lookN evalCall evalCallee optAll resLV resObj retLV retObj retsLV retsObj evalLoad evalIndexAddr evalField solid cellsD_agg cellsD_int cellsD_bool cellsD_str cellsD_sl cellsD_ro cellsD_fn cellsL_agg cellsL_dagg cellsL_int cellsL_bool cellsL_str cellsL_sl cellsL_fn cellsL_ow cellsL_bx cellsL_lfn cellsL_nl takeL takeD mkAgg allD eqD eqDs kindsAre kindIs LObj.live TK.isNone TK.agg TK.isBool TK.isStr TK.isStruct Op.operands Call.operands
  evalBuildSlice evalAppend elemsOf evalStore evalBuild fillL lookupF putL evalSlice bound evalConv elemsS freezes frozen loadR
  mkEnv_at mkObs_at close_d close_agg close_ow close_bx close_fn close_nl touch_d touch_agg touch_ow touch_bx touch_fn touch_nl ren_d ren_agg ren_bx ren_rp ren_ow ren_fn ren_nl ren_junk retQ_ret retQ2_ret condQ_bool Nm.d Df.d Ed.d nmsD dfsD strsD edsD retC_ret nm_eq df_eq take_map_len take_map_app
  nm_t nm_d nm_td df_t df_d df_td str_t str_d str_td ed_t ed_d ed_td
  evalAppendIn evalBuildSliceC evalCopyC shortL evalApart evalAppendC evalAppendZ evalAppendG evalCapC isOc TK.isInt close_oc touch_oc ren_oc cellsL_oc evalCut evalClear evalCopy evalMake evalWrap evalCap evalNil isNilC lenL isInp gorc gorc2
  mapOf findD keyEq keyOk evalMakeMap evalRange zeroD zeroDV argsG shutG outN lenv retG0_ret retG0_normal retG1_ret retGR_ret renO close_mp touch_mp ren_mp optAll_d optAll_d' touch_ds cellsL_mp cellsD_mp cellsL_dmp
  evalMapSet evalPtr TK.isPtr evalToArr firstL retN_ret retsQ rvarL close_bm touch_bm ren_bm cellsD_bm cellsL_bm cellsL_lbm
theorem app_get {α : Type} {f : α → DV} {l : List α} {t : List DV} {k : Nat} (h : k < l.length) : (List.map f l ++ t)[k]? = some (f l[k]) := by rw [List.getElem?_append_left (by simpa using h)]; simp [h]
def msortN (l : List Nm) : List Nm := l.mergeSort fun x y => !Nm.less y x
theorem nmAgg (x : Nm) (w : World) (E : Nat → Prop) (v : Value) : RD w E x.d v ↔ v = .agg x.enc.toArray := by
  constructor
  · intro h
    cases h with
    | agg _ us hl _ hc =>
      match us, hl with
      | [a, b], _ =>
        have h0 := hc 0 _ a rfl rfl
        have h1 := hc 1 _ b rfl rfl
        cases h0; cases h1; rfl
  · rintro rfl
    refine .agg _ _ rfl (fun u hu => by simp [Nm.enc] at hu; rcases hu with rfl | rfl <;> rfl) fun i c v hc hv => ?_
    match i, hc, hv with
    | 0, hc, hv => simp [Nm.enc] at hc hv; subst hc; subst hv; exact .int _ _
    | 1, hc, hv => simp [Nm.enc] at hc hv; subst hc; subst hv; exact .int _ _
theorem nmCells : Cells 2 Nm.d Nm.enc where
  pos := by decide
  len := fun _ => rfl
  lenD := fun _ => rfl
  one := fun x v hv => by simp [Nm.enc] at hv; rcases hv with rfl | rfl <;> rfl
  cell := fun x i c v hc hv w E u => by
    match i, hc, hv with
    | 0, hc, hv => simp [Nm.enc, Nm.d, cellsD] at hc hv; subst hc; subst hv; exact ⟨fun h => by cases h; rfl, fun h => h ▸ .int _ _⟩
    | 1, hc, hv => simp [Nm.enc, Nm.d, cellsD] at hc hv; subst hc; subst hv; exact ⟨fun h => by cases h; rfl, fun h => h ▸ .int _ _⟩
theorem ltOf_cmpN (a b : Nm) : Proofs.ltOf cmpN a b = Nm.less a b := by
  have := cmpN_ge a b
  unfold Proofs.ltOf
  by_cases h : 0 ≤ cmpN a b <;> simp [h, Int.not_lt.2, Int.lt_of_not_ge] at this ⊢ <;> simp_all
theorem SortFuncNm_ok (l : List Nm) (hl : l.length ≤ 8000000000000) : OkG Tryz.prog 125 [.ow 0 0 l.length, .d (.fn 126 [])] [(0, .row false 2 (l.map Nm.d))] [(0, .row false 2 ((msortN l).map Nm.d))] (.tup []) := by
  have e0 : Proofs.ltOf cmpN = Nm.less := by funext x y; exact ltOf_cmpN x y
  have e : msortN l = l.mergeSort fun x y => !(Proofs.ltOf cmpN) y x := by rw [e0]; rfl
  rw [e]
  have hO : Go.Sort.SWO Nm.less := ⟨fun x => by simp [Nm.less], fun x y z h1 h2 => by simp [Nm.less] at h1 h2 ⊢; omega, fun x y z h1 h2 => by simp [Nm.less] at h1 h2 ⊢; omega⟩
  have hT : ∀ x y, Nm.less x y = false → Nm.less y x = false → x = y := fun x y h1 h2 => by simp [Nm.less] at h1 h2; cases x; cases y; simp at *; omega
  exact sortFunc_ok Tryz.sortNm nmCells nmAgg Tryz.isAgg63 Tryz.sizeOf63 cmpN (e0 ▸ hO) (e0 ▸ hT) _ compare_ok
    ⟨_, Tryz.func125, by kernel_rfl, by rfl⟩ l hl
theorem msortN_len (l : List Nm) : (msortN l).length = l.length := List.length_mergeSort _
theorem dedup_msort (l : List Nm) : dedup (msortN l) = sortN l := by
  refine dedup_sorted (fun x => List.mem_mergeSort) ?_
  have := List.pairwise_mergeSort (le := fun x y : Nm => !Nm.less y x) (fun a b c h1 h2 => by simp [Nm.less] at *; omega) (fun a b => by simp [Nm.less]; omega) l
  exact this.imp fun h => by simpa using h
theorem sortN_len (l : List Nm) : (sortN l).length ≤ l.length := by rw [← dedup_msort, ← msortN_len l]; exact dedup_length _
theorem closedB_iff {l : List Ed} {set : List Nm} : closedB l set = true ↔ ∀ n ∈ set, 0 ≤ findI l n ∧ ∀ m ∈ needsOf l n, m ∈ set := by
  unfold closedB closedAt
  simp
theorem ESort_ok (l : List Nm) (hl : l.length ≤ 8000000000000) : Ok Tryz.prog 72 [nmsD l] ⟨.own 2 ((sortN l).map Nm.d), true⟩ := by
  refine Ok.ret Tryz.func72 (by kernel_rfl) (c := _) rfl Tryz.ntmps72 (by simp) Tryz.results72 (by intro _ h; cases h) fun w0 X hp => ?_
  refine LWp.seq ?_
  refine LWp.rz hT hW ?_
  simp
  refine LWp.seq ?_
  refine LWp.ro hT hW (fun | 5 => some <| .plain ⟨.own 2 (l.map Nm.d), true⟩ | _ => none) ?_
  simp
  refine ⟨CloneNm_ok l hl, ?_⟩
  refine LWp.seq ?_
  refine LWp.ro hT hW (fun | 7 => some (.gen ⟨[(5, 0)], [], [], [(0, .row false 2 ((msortN l).map Nm.d))], .tup []⟩) | _ => none) ?_
  simp
  refine ⟨by simpa using SortFuncNm_ok l hl, ?_⟩
  refine LWp.seq ?_
  refine LWp.ro hT hW (fun | 9 => some (.gen ⟨[(5, 0)], [], [], [(0, .row false 2 ((sortN l).map Nm.d ++ List.replicate (l.length - (sortN l).length) zeroNm.d))], .ow 0 0 (sortN l).length⟩) | _ => none) ?_
  simp
  refine ⟨by have := CompactNm_ok (msortN l) (by rw [msortN_len]; exact hl); rw [msortN_len, dedup_msort] at this; simpa using this, ?_⟩
  refine LWp.ret ?_
  simp
theorem order11_ok (out : List Nm) (n : Nm) : Ok Tryz.prog 100 [n.d, .ro [nmsD out]] ⟨.d (.bool (!decide (n ∈ out))), true⟩ := by
  refine Ok.ret Tryz.func100 (by kernel_rfl) (c := _) rfl Tryz.ntmps100 (by simp) Tryz.results100 (by intro _ h; cases h) fun w0 X hp => ?_
  refine LWp.seq ?_
  refine LWp.rz hT hW ?_
  simp
  refine LWp.seq ?_
  refine LWp.ro hT hW (fun | 6 => some <| .plain ⟨.d (.bool (decide (n ∈ out))), true⟩ | _ => none) ?_
  simp
  refine ⟨InNm_ok out n, ?_⟩
  refine LWp.ret ?_
  simp
theorem order1_ok (l : List Ed) (out : List Nm) (n : Nm) (h : 0 ≤ findI l n) : Ok Tryz.prog 99 [n.d, .ro [edsD l], .ro [nmsD out]] ⟨.d (.bool (readyN l out n)), true⟩ := by
  refine Ok.ret Tryz.func99 (by kernel_rfl) (c := _) rfl Tryz.ntmps99 (by simp) Tryz.results99 (by intro _ h; cases h) fun w0 X hp => ?_
  refine LWp.seq ?_
  refine LWp.rz hT hW ?_
  simp
  refine LWp.seq ?_
  obtain ⟨i0, hi0, hfi, hfe, hne⟩ := edit_find (show ¬ findI l n < 0 by omega)
  refine LWp.regAny hT hW hMixed (lk [[],[],[],[1,2],[0,1,2,3],[0,1,2,3,4],[0,1,2,3,4,5],[],[0,1,2,3,4,5,6,7],[0,1,2,3,4,5,6,7,8],[0,1,2,3,4,5,6,7,8,9]]) (lk [[8],[],[],[],[],[],[],[8],[],[],[]]) (lk [[],[],[],[8],[],[],[],[],[13],[],[]]) (by kernel_rfl) (fun | 8 => some <| .plain ⟨.d (I64 (findI l n)), true⟩ | 13 => some <| .plain ⟨.d (.bool (l[i0].needs.any fun m => !decide (m ∈ out))), true⟩ | _ => none) (by intro d; first | exact ⟨rfl, fun _ h => h⟩ | (split <;> exact ⟨rfl, fun _ h => h⟩)) ?_
  simp [hfe, hi0]
  refine ⟨⟨by rw [← hfe]; exact EFind_ok l n, by simpa [nmsD] using AnyNm_ok l[i0].needs (fun m => !decide (m ∈ out)) _ _ fun m _ => order11_ok out m⟩, ?_⟩
  refine LWp.ret ?_
  simp [readyN, hne]
  rw [Bool.eq_iff_iff]
  simp
theorem order_init {l : List Ed} {set : List Nm} (hc : closedB l set = true) : (∀ n ∈ sortN set, ∀ m ∈ needsOf l n, m ∈ sortN set ∨ m ∈ ([] : List Nm)) ∧ (∀ n ∈ sortN set, 0 ≤ findI l n) ∧ orderF l (sortN set).length (sortN set) [] = orderN l set ∧ (sortN set).length + ([] : List Nm).length ≤ set.length := by
  have hcl := closedB_iff.1 hc
  refine ⟨fun n hn m hm => .inl ?_, fun n hn => ?_, rfl, by simpa using sortN_len set⟩
  · exact ((sortN_spec set).2 m).2 ((hcl n (((sortN_spec set).2 n).1 hn)).2 m hm)
  · exact (hcl n (((sortN_spec set).2 n).1 hn)).1
theorem order_ok (l : List Ed) (set : List Nm) (hl : set.length ≤ 1100000) (ha : Acyc l) (hc : closedB l set = true) : Ok Tryz.prog 50 [edsD l, nmsD set] ⟨.own 2 ((orderN l set).map Nm.d), true⟩ := by
  refine Ok.ret Tryz.func50 (by kernel_rfl) (c := _) rfl Tryz.ntmps50 (by simp) Tryz.results50 (by intro _ h; cases h) fun w0 X hp => ?_
  refine LWp.seq ?_
  refine LWp.rz hT hW ?_
  simp
  refine LWp.seq ?_
  refine LWp.ro hT hW (fun | 9 => some <| .plain ⟨.own 2 ((sortN set).map Nm.d), true⟩ | _ => none) ?_
  simp
  refine ⟨ESort_ok set (by omega), ?_⟩
  refine LWp.seq ?_
  refine LWp.rz hT hW ?_
  simp
  refine LWp.nlBox (fz := false) 6 7 2 (by decide) ⟨by simp, by simp, ?_⟩
  refine LWp.seq ?_
  refine LWp.block ?_
  refine LWp.loopW (ι := List Nm × List Nm × Nat) (fun ⟨rest, out, z⟩ => mkEnv [(2, .bx 2 0), (5, .ow 5 0 rest.length), (6, .bx 6 0)]) (fun ⟨rest, out, z⟩ => mkObs [(2, .box false [.d (edsD l)]), (5, .row false 2 (rest.map Nm.d ++ List.replicate z zeroNm.d)), (6, .box false [.ow 7 0 out.length]), (7, .row false 2 (out.map Nm.d))]) (fun ⟨rest, out, z⟩ => (∀ n ∈ rest, ∀ m ∈ needsOf l n, m ∈ rest ∨ m ∈ out) ∧ (∀ n ∈ rest, 0 ≤ findI l n) ∧ orderF l rest.length rest out = orderN l set ∧ rest.length + out.length ≤ set.length) (fun ⟨rest, out, z⟩ => rest.length) (sortN set, [], 0) (Weak.to [2, 5, 6] [(2, 2), (9, 5), (6, 6), (7, 7)] (by decide) (by decide) (by simp [hp]) (by simp) (by simp)) (order_init hc) fun ⟨rest, out, z⟩ hi3 => ?_
  refine LWp.seq ?_
  refine LWp.seq ?_
  refine LWp.rz hT hW ?_
  simp
  refine LWp.iff ?_
  simp
  refine ⟨fun h3 => ?_, fun h3 => ?_⟩
  · obtain ⟨k, hfk, hk⟩ := ready_at ha hi3.1 h3
    refine LWp.skip ?_
    simp
    refine LWp.block ?_
    refine LWp.seq ?_
    refine LWp.ro hT hW (fun | 15 => some <| .plain ⟨.d (I64 (idxI (readyN l out) rest)), true⟩ | _ => none) ?_
    simp
    refine ⟨by simpa [nmsD] using IndexNm_ok rest (readyN l out) _ _ fun n hn => order1_ok l out n (hi3.2.1 n hn), ?_⟩
    refine LWp.seq ?_
    refine LWp.regAny hT hW hMixed (lk [[],[],[],[1,2],[1,2,3],[1,2,3,4],[0,1,2,3,4,5],[0,1,2,3,4,5,6]]) (lk [[21],[],[],[],[],[],[],[]]) (lk [[],[],[],[],[],[21],[22,7],[6]]) (by kernel_rfl) (fun _ => none) (fun _ => ⟨rfl, fun _ h => h⟩) ?_
    simp [idxI_some hfk, hk, app_get hk]
    refine ⟨by have := hi3.2.2.2; omega, ?_⟩
    refine LWp.ro hT hW (fun | 27 => some (.gen ⟨[(5, 0)], [], [], [(0, .row false 2 ((rest.eraseIdx k).map Nm.d ++ Nm.d ⟨0, 0⟩ :: List.replicate z zeroNm.d))], .ow 0 0 (rest.length - 1)⟩) | _ => none) ?_
    simp
    refine ⟨⟨by have := hi3.2.2.2; omega, by simpa using DeleteNm_ok rest (List.replicate z zeroNm.d) (fun y hy => by rw [(List.mem_replicate.1 hy).2]; rfl) k hk⟩, ?_⟩
    refine loopQ.mk (rest.eraseIdx k, out ++ [rest[k]], z + 1) (Weak.to [2, 5, 6] [(2, 2), (5, 5), (6, 6), (22, 7)] (by decide) (by decide) (by simp [hp]) (by simp [List.length_eraseIdx, hk]) (by simp [List.replicate_succ, zeroNm])) ?_ ?_
    · refine ⟨closed_step hi3.1 hk, fun n hn => hi3.2.1 n (List.mem_of_mem_eraseIdx hn), ?_, ?_⟩
      · have := hi3.2.2.1
        rw [← this, show rest.length = (rest.eraseIdx k).length + 1 by rw [List.length_eraseIdx, if_pos hk]; omega, orderF_succ hfk hk]
      · have := hi3.2.2.2
        simp [List.length_eraseIdx, hk]; omega
    · simp [List.length_eraseIdx, hk]; omega
  · refine LWp.exit ?_
    simp
    refine LWp.seq ?_
    refine LWp.rz hT hW ?_
    simp
    refine LWp.ret ?_
    have := hi3.2.2.1
    simp only [show rest = [] from List.eq_nil_of_length_eq_zero (by simpa using h3), List.length_nil, orderF] at this
    simp [← this]
end Go.Eng
