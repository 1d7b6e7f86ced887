/-
  Texts of the proofs of this seat, part 5. No condition.
-/
import Derived.Test.YtmpfgfdjkjekcaaGreatDoorMD
import Derived.Test.YtmpfgfdjkjekcaaGreatDoorProg
import Derived.KernelRfl
import Derived.Shelf.Strconv.Itoa3
import Derived.Shelf.Strings.Search1
set_option linter.unusedVariables false
set_option linter.unusedSimpArgs false
namespace Go.Eng
def tab : List (Nat × TyI) :=
  [(2, ⟨.int .i64, 1, 8, [.int .i64 0], []⟩),
   (3, ⟨.int .i64, 1, 8, [.int .i64 0], []⟩),
   (4, ⟨.bool, 1, 1, [.bool false], []⟩),
   (5, ⟨.int .u8, 1, 1, [.int .u8 0], []⟩),
   (6, ⟨.int .u8, 1, 1, [.int .u8 0], []⟩),
   (9, ⟨.str, 1, 16, [.string .empty], []⟩),
   (10, ⟨.str, 1, 16, [.string .empty], []⟩),
   (11, ⟨.str, 1, 16, [.string .empty], []⟩),
   (12, ⟨.int .u64, 1, 8, [.int .u64 0], []⟩),
   (21, ⟨.int .i32, 1, 4, [.int .i32 0], []⟩),
   (22, ⟨.slice 3, 1, 24, [.slice none 0 0], []⟩),
   (23, ⟨.slice 25, 1, 24, [.slice none 0 0], []⟩),
   (24, ⟨.struct [(0, 3), (1, 9), (2, 3), (3, 23)], 4, 56, [.int .i64 0, .string .empty, .int .i64 0, .slice none 0 0], []⟩),
   (25, ⟨.struct [(0, 3), (1, 9), (2, 3), (3, 23)], 4, 56, [.int .i64 0, .string .empty, .int .i64 0, .slice none 0 0], []⟩),
   (26, ⟨.other, 1, 8, [.nilFunc], []⟩),
   (27, ⟨.other, 1, 8, [.nilFunc], []⟩),
   (29, ⟨.other, 1, 8, [.nilFunc], []⟩),
   (30, ⟨.other, 1, 8, [.nilFunc], []⟩),
   (31, ⟨.other, 1, 8, [.nilFunc], []⟩),
   (32, ⟨.other, 1, 8, [.nilFunc], []⟩),
   (33, ⟨.other, 1, 8, [.nilFunc], []⟩),
   (34, ⟨.other, 1, 8, [.nilFunc], []⟩),
   (35, ⟨.other, 1, 8, [.nilFunc], []⟩),
   (36, ⟨.other, 1, 8, [.nilFunc], []⟩),
   (37, ⟨.other, 1, 8, [.nilFunc], []⟩),
   (38, ⟨.slice 9, 1, 24, [.slice none 0 0], []⟩),
   (39, ⟨.int .i64, 1, 8, [.int .i64 0], []⟩),
   (41, ⟨.other, 1, 8, [.nilFunc], []⟩),
   (42, ⟨.other, 1, 8, [.nilFunc], []⟩),
   (43, ⟨.other, 1, 8, [.nilFunc], []⟩),
   (44, ⟨.other, 1, 8, [.nilFunc], []⟩),
   (45, ⟨.other, 1, 8, [.nilFunc], []⟩),
   (46, ⟨.other, 1, 8, [.nilFunc], []⟩),
   (47, ⟨.other, 1, 8, [.nilFunc], []⟩),
   (48, ⟨.other, 1, 8, [.nilFunc], []⟩),
   (49, ⟨.other, 1, 8, [.nilFunc], []⟩),
   (50, ⟨.other, 1, 8, [.nilFunc], []⟩),
   (51, ⟨.other, 1, 8, [.nilFunc], []⟩),
   (52, ⟨.ptr 54, 1, 8, [.pointer none], []⟩),
   (53, ⟨.struct [(0, 22), (1, 3)], 2, 32, [.slice none 0 0, .int .i64 0], []⟩),
   (54, ⟨.struct [(0, 22), (1, 3)], 2, 32, [.slice none 0 0, .int .i64 0], []⟩),
   (55, ⟨.other, 1, 8, [.nilFunc], []⟩),
   (56, ⟨.other, 1, 8, [.nilFunc], []⟩),
   (57, ⟨.other, 1, 8, [.nilFunc], []⟩),
   (58, ⟨.other, 1, 8, [.nilFunc], []⟩),
   (59, ⟨.slice 63, 1, 24, [.slice none 0 0], []⟩),
   (61, ⟨.other, 1, 8, [.nilFunc], []⟩),
   (62, ⟨.struct [(0, 3), (1, 3)], 2, 16, [.int .i64 0, .int .i64 0], [.int .i64, .int .i64]⟩),
   (63, ⟨.struct [(0, 3), (1, 3)], 2, 16, [.int .i64 0, .int .i64 0], [.int .i64, .int .i64]⟩),
   (64, ⟨.other, 1, 8, [.nilFunc], []⟩),
   (65, ⟨.other, 1, 8, [.nilFunc], []⟩),
   (66, ⟨.other, 1, 8, [.nilFunc], []⟩),
   (67, ⟨.slice 5, 1, 24, [.slice none 0 0], []⟩),
   (68, ⟨.slice 76, 1, 24, [.slice none 0 0], []⟩),
   (70, ⟨.other, 1, 8, [.nilFunc], []⟩),
   (71, ⟨.ptr 73, 1, 8, [.pointer none], []⟩),
   (72, ⟨.struct [(0, 68), (1, 39)], 2, 32, [.slice none 0 0, .int .i64 0], []⟩),
   (73, ⟨.struct [(0, 68), (1, 39)], 2, 32, [.slice none 0 0, .int .i64 0], []⟩),
   (74, ⟨.other, 1, 8, [.nilFunc], []⟩),
   (75, ⟨.struct [(0, 9), (1, 3)], 2, 24, [.string .empty, .int .i64 0], [.str, .int .i64]⟩),
   (76, ⟨.struct [(0, 9), (1, 3)], 2, 24, [.string .empty, .int .i64 0], [.str, .int .i64]⟩),
   (77, ⟨.ptr 79, 1, 8, [.pointer none], []⟩),
   (78, ⟨.struct [(0, 9), (1, 59), (2, 3), (3, 4), (4, 4)], 5, 56, [.string .empty, .slice none 0 0, .int .i64 0, .bool false, .bool false], []⟩),
   (79, ⟨.struct [(0, 9), (1, 59), (2, 3), (3, 4), (4, 4)], 5, 56, [.string .empty, .slice none 0 0, .int .i64 0, .bool false, .bool false], []⟩),
   (80, ⟨.other, 1, 8, [.nilFunc], []⟩),
   (81, ⟨.arr 26 9, 26, 416, [.string .empty, .string .empty, .string .empty, .string .empty, .string .empty, .string .empty, .string .empty, .string .empty, .string .empty, .string .empty, .string .empty, .string .empty, .string .empty, .string .empty, .string .empty, .string .empty, .string .empty, .string .empty, .string .empty, .string .empty, .string .empty, .string .empty, .string .empty, .string .empty, .string .empty, .string .empty], []⟩),
   (82, ⟨.other, 1, 8, [.nilFunc], []⟩),
   (83, ⟨.other, 1, 8, [.nilFunc], []⟩),
   (84, ⟨.other, 1, 8, [.nilFunc], []⟩),
   (85, ⟨.other, 1, 8, [.nilFunc], []⟩),
   (86, ⟨.other, 1, 8, [.nilFunc], []⟩),
   (87, ⟨.other, 1, 8, [.nilFunc], []⟩),
   (88, ⟨.other, 1, 8, [.nilFunc], []⟩),
   (89, ⟨.other, 1, 8, [.nilFunc], []⟩),
   (90, ⟨.other, 1, 8, [.nilFunc], []⟩),
   (91, ⟨.other, 1, 8, [.nilFunc], []⟩),
   (92, ⟨.other, 1, 8, [.nilFunc], []⟩),
   (93, ⟨.other, 1, 8, [.nilFunc], []⟩),
   (94, ⟨.int .u64, 1, 8, [.int .u64 0], []⟩),
   (95, ⟨.other, 1, 8, [.nilFunc], []⟩),
   (96, ⟨.other, 1, 8, [.nilFunc], []⟩),
   (97, ⟨.other, 1, 8, [.nilFunc], []⟩),
   (98, ⟨.arr 2 3, 2, 16, [.int .i64 0, .int .i64 0], []⟩),
   (99, ⟨.arr 37 98, 74, 592, [.int .i64 0, .int .i64 0, .int .i64 0, .int .i64 0, .int .i64 0, .int .i64 0, .int .i64 0, .int .i64 0, .int .i64 0, .int .i64 0, .int .i64 0, .int .i64 0, .int .i64 0, .int .i64 0, .int .i64 0, .int .i64 0, .int .i64 0, .int .i64 0, .int .i64 0, .int .i64 0, .int .i64 0, .int .i64 0, .int .i64 0, .int .i64 0, .int .i64 0, .int .i64 0, .int .i64 0, .int .i64 0, .int .i64 0, .int .i64 0, .int .i64 0, .int .i64 0, .int .i64 0, .int .i64 0, .int .i64 0, .int .i64 0, .int .i64 0, .int .i64 0, .int .i64 0, .int .i64 0, .int .i64 0, .int .i64 0, .int .i64 0, .int .i64 0, .int .i64 0, .int .i64 0, .int .i64 0, .int .i64 0, .int .i64 0, .int .i64 0, .int .i64 0, .int .i64 0, .int .i64 0, .int .i64 0, .int .i64 0, .int .i64 0, .int .i64 0, .int .i64 0, .int .i64 0, .int .i64 0, .int .i64 0, .int .i64 0, .int .i64 0, .int .i64 0, .int .i64 0, .int .i64 0, .int .i64 0, .int .i64 0, .int .i64 0, .int .i64 0, .int .i64 0, .int .i64 0, .int .i64 0, .int .i64 0], []⟩),
   (100, ⟨.other, 1, 8, [.nilFunc], []⟩),
   (102, ⟨.other, 1, 8, [.nilFunc], []⟩),
   (103, ⟨.other, 1, 8, [.nilFunc], []⟩),
   (104, ⟨.other, 1, 8, [.nilFunc], []⟩),
   (106, ⟨.other, 1, 8, [.nilFunc], []⟩),
   (107, ⟨.other, 1, 8, [.nilFunc], []⟩),
   (108, ⟨.other, 1, 8, [.nilFunc], []⟩),
   (109, ⟨.other, 1, 8, [.nilFunc], []⟩),
   (113, ⟨.other, 1, 8, [.nilFunc], []⟩),
   (114, ⟨.other, 1, 8, [.nilFunc], []⟩),
   (115, ⟨.int .i64, 1, 8, [.int .i64 0], []⟩),
   (117, ⟨.other, 1, 8, [.nilFunc], []⟩),
   (118, ⟨.other, 1, 8, [.nilFunc], []⟩),
   (119, ⟨.other, 1, 8, [.nilFunc], []⟩),
   (121, ⟨.other, 1, 8, [.nilFunc], []⟩),
   (122, ⟨.other, 1, 8, [.nilFunc], []⟩),
   (123, ⟨.int .u32, 1, 4, [.int .u32 0], []⟩),
   (124, ⟨.other, 1, 8, [.nilFunc], []⟩),
   (125, ⟨.int .u64, 1, 8, [.int .u64 0], []⟩),
   (126, ⟨.slice 96, 1, 24, [.slice none 0 0], []⟩),
   (127, ⟨.other, 1, 8, [.nilFunc], []⟩),
   (128, ⟨.other, 1, 8, [.nilFunc], []⟩),
   (129, ⟨.other, 1, 8, [.nilFunc], []⟩),
   (130, ⟨.ptr 25, 1, 8, [.pointer none], []⟩),
   (131, ⟨.other, 1, 8, [.nilFunc], []⟩),
   (132, ⟨.other, 1, 8, [.nilFunc], []⟩),
   (133, ⟨.int .u64, 1, 8, [.int .u64 0], []⟩),
   (134, ⟨.other, 1, 8, [.nilFunc], []⟩),
   (135, ⟨.other, 1, 8, [.nilFunc], []⟩),
   (136, ⟨.other, 1, 8, [.nilFunc], []⟩),
   (137, ⟨.ptr 3, 1, 8, [.pointer none], []⟩),
   (138, ⟨.other, 1, 8, [.nilFunc], []⟩),
   (139, ⟨.other, 1, 8, [.nilFunc], []⟩),
   (140, ⟨.struct [(0, 9), (1, 3)], 2, 24, [.string .empty, .int .i64 0], [.str, .int .i64]⟩),
   (141, ⟨.struct [(0, 9), (1, 3)], 2, 24, [.string .empty, .int .i64 0], [.str, .int .i64]⟩),
   (142, ⟨.arr 6 141, 12, 144, [.string .empty, .int .i64 0, .string .empty, .int .i64 0, .string .empty, .int .i64 0, .string .empty, .int .i64 0, .string .empty, .int .i64 0, .string .empty, .int .i64 0], [.str, .int .i64, .str, .int .i64, .str, .int .i64, .str, .int .i64, .str, .int .i64, .str, .int .i64]⟩),
   (143, ⟨.arr 24 5, 24, 24, [.int .u8 0, .int .u8 0, .int .u8 0, .int .u8 0, .int .u8 0, .int .u8 0, .int .u8 0, .int .u8 0, .int .u8 0, .int .u8 0, .int .u8 0, .int .u8 0, .int .u8 0, .int .u8 0, .int .u8 0, .int .u8 0, .int .u8 0, .int .u8 0, .int .u8 0, .int .u8 0, .int .u8 0, .int .u8 0, .int .u8 0, .int .u8 0], []⟩),
   (144, ⟨.other, 1, 8, [.nilFunc], []⟩),
   (146, ⟨.other, 1, 8, [.nilFunc], []⟩),
   (148, ⟨.other, 1, 8, [.nilFunc], []⟩),
   (149, ⟨.int .i64, 1, 8, [.int .i64 0], []⟩),
   (151, ⟨.other, 1, 8, [.nilFunc], []⟩),
   (152, ⟨.ptr 168, 1, 8, [.pointer none], []⟩),
   (153, ⟨.other, 1, 8, [.nilFunc], []⟩),
   (154, ⟨.other, 1, 8, [.nilFunc], []⟩),
   (155, ⟨.ptr 133, 1, 8, [.pointer none], []⟩),
   (156, ⟨.other, 1, 8, [.nilFunc], []⟩),
   (157, ⟨.other, 1, 8, [.nilFunc], []⟩),
   (158, ⟨.arr 20 125, 20, 160, [.int .u64 0, .int .u64 0, .int .u64 0, .int .u64 0, .int .u64 0, .int .u64 0, .int .u64 0, .int .u64 0, .int .u64 0, .int .u64 0, .int .u64 0, .int .u64 0, .int .u64 0, .int .u64 0, .int .u64 0, .int .u64 0, .int .u64 0, .int .u64 0, .int .u64 0, .int .u64 0], []⟩),
   (159, ⟨.arr 65 5, 65, 65, [.int .u8 0, .int .u8 0, .int .u8 0, .int .u8 0, .int .u8 0, .int .u8 0, .int .u8 0, .int .u8 0, .int .u8 0, .int .u8 0, .int .u8 0, .int .u8 0, .int .u8 0, .int .u8 0, .int .u8 0, .int .u8 0, .int .u8 0, .int .u8 0, .int .u8 0, .int .u8 0, .int .u8 0, .int .u8 0, .int .u8 0, .int .u8 0, .int .u8 0, .int .u8 0, .int .u8 0, .int .u8 0, .int .u8 0, .int .u8 0, .int .u8 0, .int .u8 0, .int .u8 0, .int .u8 0, .int .u8 0, .int .u8 0, .int .u8 0, .int .u8 0, .int .u8 0, .int .u8 0, .int .u8 0, .int .u8 0, .int .u8 0, .int .u8 0, .int .u8 0, .int .u8 0, .int .u8 0, .int .u8 0, .int .u8 0, .int .u8 0, .int .u8 0, .int .u8 0, .int .u8 0, .int .u8 0, .int .u8 0, .int .u8 0, .int .u8 0, .int .u8 0, .int .u8 0, .int .u8 0, .int .u8 0, .int .u8 0, .int .u8 0, .int .u8 0, .int .u8 0], []⟩),
   (160, ⟨.other, 1, 8, [.nilFunc], []⟩),
   (161, ⟨.other, 1, 8, [.nilFunc], []⟩),
   (162, ⟨.slice 141, 1, 24, [.slice none 0 0], []⟩),
   (163, ⟨.other, 1, 8, [.nilFunc], []⟩),
   (165, ⟨.other, 1, 8, [.nilFunc], []⟩),
   (166, ⟨.other, 1, 8, [.nilFunc], []⟩),
   (169, ⟨.other, 1, 8, [.nilFunc], []⟩),
   (171, ⟨.other, 1, 8, [.nilFunc], []⟩),
   (172, ⟨.other, 1, 8, [.nilFunc], []⟩),
   (173, ⟨.ptr 5, 1, 8, [.pointer none], []⟩),
   (174, ⟨.ptr 176, 1, 8, [.pointer none], []⟩),
   (175, ⟨.struct [(0, 9)], 1, 16, [.string .empty], [.str]⟩),
   (176, ⟨.struct [(0, 9)], 1, 16, [.string .empty], [.str]⟩),
   (177, ⟨.arr 32 5, 32, 32, [.int .u8 0, .int .u8 0, .int .u8 0, .int .u8 0, .int .u8 0, .int .u8 0, .int .u8 0, .int .u8 0, .int .u8 0, .int .u8 0, .int .u8 0, .int .u8 0, .int .u8 0, .int .u8 0, .int .u8 0, .int .u8 0, .int .u8 0, .int .u8 0, .int .u8 0, .int .u8 0, .int .u8 0, .int .u8 0, .int .u8 0, .int .u8 0, .int .u8 0, .int .u8 0, .int .u8 0, .int .u8 0, .int .u8 0, .int .u8 0, .int .u8 0, .int .u8 0], []⟩),
   (178, ⟨.arr 64 5, 64, 64, [.int .u8 0, .int .u8 0, .int .u8 0, .int .u8 0, .int .u8 0, .int .u8 0, .int .u8 0, .int .u8 0, .int .u8 0, .int .u8 0, .int .u8 0, .int .u8 0, .int .u8 0, .int .u8 0, .int .u8 0, .int .u8 0, .int .u8 0, .int .u8 0, .int .u8 0, .int .u8 0, .int .u8 0, .int .u8 0, .int .u8 0, .int .u8 0, .int .u8 0, .int .u8 0, .int .u8 0, .int .u8 0, .int .u8 0, .int .u8 0, .int .u8 0, .int .u8 0, .int .u8 0, .int .u8 0, .int .u8 0, .int .u8 0, .int .u8 0, .int .u8 0, .int .u8 0, .int .u8 0, .int .u8 0, .int .u8 0, .int .u8 0, .int .u8 0, .int .u8 0, .int .u8 0, .int .u8 0, .int .u8 0, .int .u8 0, .int .u8 0, .int .u8 0, .int .u8 0, .int .u8 0, .int .u8 0, .int .u8 0, .int .u8 0, .int .u8 0, .int .u8 0, .int .u8 0, .int .u8 0, .int .u8 0, .int .u8 0, .int .u8 0, .int .u8 0], []⟩),
   (184, ⟨.int .u8, 1, 1, [.int .u8 0], []⟩),
   (185, ⟨.int .u8, 1, 1, [.int .u8 0], []⟩),
   (186, ⟨.other, 1, 8, [.nilFunc], []⟩),
   (187, ⟨.int .i32, 1, 4, [.int .i32 0], []⟩),
   (188, ⟨.int .i32, 1, 4, [.int .i32 0], []⟩),
   (189, ⟨.struct [(0, 12), (1, 12), (2, 123), (3, 184), (4, 5), (5, 5), (6, 185), (7, 186), (8, 173), (9, 187), (10, 188)], 11, 48, [.int .u64 0, .int .u64 0, .int .u32 0, .int .u8 0, .int .u8 0, .int .u8 0, .int .u8 0, .nilFunc, .pointer none, .int .i32 0, .int .i32 0], []⟩),
   (190, ⟨.struct [(0, 12), (1, 12), (2, 123), (3, 184), (4, 5), (5, 5), (6, 185), (7, 186), (8, 173), (9, 187), (10, 188)], 11, 48, [.int .u64 0, .int .u64 0, .int .u32 0, .int .u8 0, .int .u8 0, .int .u8 0, .int .u8 0, .nilFunc, .pointer none, .int .i32 0, .int .i32 0], []⟩)]
def T : TypeId → TyI := lookT tab
theorem hT : TOk Go.Proofs.Tryz.prog T := tabChk_ok (by kernel_rfl)
theorem hW : TWf T := tabWf_ok (by kernel_rfl)
@[simp] theorem t2 : T 2 = ⟨.int .i64, 1, 8, [.int .i64 0], []⟩ := by kernel_rfl
@[simp] theorem t3 : T 3 = ⟨.int .i64, 1, 8, [.int .i64 0], []⟩ := by kernel_rfl
@[simp] theorem t4 : T 4 = ⟨.bool, 1, 1, [.bool false], []⟩ := by kernel_rfl
@[simp] theorem t5 : T 5 = ⟨.int .u8, 1, 1, [.int .u8 0], []⟩ := by kernel_rfl
@[simp] theorem t6 : T 6 = ⟨.int .u8, 1, 1, [.int .u8 0], []⟩ := by kernel_rfl
@[simp] theorem t9 : T 9 = ⟨.str, 1, 16, [.string .empty], []⟩ := by kernel_rfl
@[simp] theorem t10 : T 10 = ⟨.str, 1, 16, [.string .empty], []⟩ := by kernel_rfl
@[simp] theorem t11 : T 11 = ⟨.str, 1, 16, [.string .empty], []⟩ := by kernel_rfl
@[simp] theorem t12 : T 12 = ⟨.int .u64, 1, 8, [.int .u64 0], []⟩ := by kernel_rfl
@[simp] theorem t21 : T 21 = ⟨.int .i32, 1, 4, [.int .i32 0], []⟩ := by kernel_rfl
@[simp] theorem t22 : T 22 = ⟨.slice 3, 1, 24, [.slice none 0 0], []⟩ := by kernel_rfl
@[simp] theorem t23 : T 23 = ⟨.slice 25, 1, 24, [.slice none 0 0], []⟩ := by kernel_rfl
@[simp] theorem t24 : T 24 = ⟨.struct [(0, 3), (1, 9), (2, 3), (3, 23)], 4, 56, [.int .i64 0, .string .empty, .int .i64 0, .slice none 0 0], []⟩ := by kernel_rfl
@[simp] theorem t25 : T 25 = ⟨.struct [(0, 3), (1, 9), (2, 3), (3, 23)], 4, 56, [.int .i64 0, .string .empty, .int .i64 0, .slice none 0 0], []⟩ := by kernel_rfl
@[simp] theorem t26 : T 26 = ⟨.other, 1, 8, [.nilFunc], []⟩ := by kernel_rfl
@[simp] theorem t27 : T 27 = ⟨.other, 1, 8, [.nilFunc], []⟩ := by kernel_rfl
@[simp] theorem t29 : T 29 = ⟨.other, 1, 8, [.nilFunc], []⟩ := by kernel_rfl
@[simp] theorem t30 : T 30 = ⟨.other, 1, 8, [.nilFunc], []⟩ := by kernel_rfl
@[simp] theorem t31 : T 31 = ⟨.other, 1, 8, [.nilFunc], []⟩ := by kernel_rfl
@[simp] theorem t32 : T 32 = ⟨.other, 1, 8, [.nilFunc], []⟩ := by kernel_rfl
@[simp] theorem t33 : T 33 = ⟨.other, 1, 8, [.nilFunc], []⟩ := by kernel_rfl
@[simp] theorem t34 : T 34 = ⟨.other, 1, 8, [.nilFunc], []⟩ := by kernel_rfl
@[simp] theorem t35 : T 35 = ⟨.other, 1, 8, [.nilFunc], []⟩ := by kernel_rfl
@[simp] theorem t36 : T 36 = ⟨.other, 1, 8, [.nilFunc], []⟩ := by kernel_rfl
@[simp] theorem t37 : T 37 = ⟨.other, 1, 8, [.nilFunc], []⟩ := by kernel_rfl
@[simp] theorem t38 : T 38 = ⟨.slice 9, 1, 24, [.slice none 0 0], []⟩ := by kernel_rfl
@[simp] theorem t39 : T 39 = ⟨.int .i64, 1, 8, [.int .i64 0], []⟩ := by kernel_rfl
@[simp] theorem t41 : T 41 = ⟨.other, 1, 8, [.nilFunc], []⟩ := by kernel_rfl
@[simp] theorem t42 : T 42 = ⟨.other, 1, 8, [.nilFunc], []⟩ := by kernel_rfl
@[simp] theorem t43 : T 43 = ⟨.other, 1, 8, [.nilFunc], []⟩ := by kernel_rfl
@[simp] theorem t44 : T 44 = ⟨.other, 1, 8, [.nilFunc], []⟩ := by kernel_rfl
@[simp] theorem t45 : T 45 = ⟨.other, 1, 8, [.nilFunc], []⟩ := by kernel_rfl
@[simp] theorem t46 : T 46 = ⟨.other, 1, 8, [.nilFunc], []⟩ := by kernel_rfl
@[simp] theorem t47 : T 47 = ⟨.other, 1, 8, [.nilFunc], []⟩ := by kernel_rfl
@[simp] theorem t48 : T 48 = ⟨.other, 1, 8, [.nilFunc], []⟩ := by kernel_rfl
@[simp] theorem t49 : T 49 = ⟨.other, 1, 8, [.nilFunc], []⟩ := by kernel_rfl
@[simp] theorem t50 : T 50 = ⟨.other, 1, 8, [.nilFunc], []⟩ := by kernel_rfl
@[simp] theorem t51 : T 51 = ⟨.other, 1, 8, [.nilFunc], []⟩ := by kernel_rfl
@[simp] theorem t52 : T 52 = ⟨.ptr 54, 1, 8, [.pointer none], []⟩ := by kernel_rfl
@[simp] theorem t53 : T 53 = ⟨.struct [(0, 22), (1, 3)], 2, 32, [.slice none 0 0, .int .i64 0], []⟩ := by kernel_rfl
@[simp] theorem t54 : T 54 = ⟨.struct [(0, 22), (1, 3)], 2, 32, [.slice none 0 0, .int .i64 0], []⟩ := by kernel_rfl
@[simp] theorem t55 : T 55 = ⟨.other, 1, 8, [.nilFunc], []⟩ := by kernel_rfl
@[simp] theorem t56 : T 56 = ⟨.other, 1, 8, [.nilFunc], []⟩ := by kernel_rfl
@[simp] theorem t57 : T 57 = ⟨.other, 1, 8, [.nilFunc], []⟩ := by kernel_rfl
@[simp] theorem t58 : T 58 = ⟨.other, 1, 8, [.nilFunc], []⟩ := by kernel_rfl
@[simp] theorem t59 : T 59 = ⟨.slice 63, 1, 24, [.slice none 0 0], []⟩ := by kernel_rfl
@[simp] theorem t61 : T 61 = ⟨.other, 1, 8, [.nilFunc], []⟩ := by kernel_rfl
@[simp] theorem t62 : T 62 = ⟨.struct [(0, 3), (1, 3)], 2, 16, [.int .i64 0, .int .i64 0], [.int .i64, .int .i64]⟩ := by kernel_rfl
@[simp] theorem t63 : T 63 = ⟨.struct [(0, 3), (1, 3)], 2, 16, [.int .i64 0, .int .i64 0], [.int .i64, .int .i64]⟩ := by kernel_rfl
@[simp] theorem t64 : T 64 = ⟨.other, 1, 8, [.nilFunc], []⟩ := by kernel_rfl
@[simp] theorem t65 : T 65 = ⟨.other, 1, 8, [.nilFunc], []⟩ := by kernel_rfl
@[simp] theorem t66 : T 66 = ⟨.other, 1, 8, [.nilFunc], []⟩ := by kernel_rfl
@[simp] theorem t67 : T 67 = ⟨.slice 5, 1, 24, [.slice none 0 0], []⟩ := by kernel_rfl
@[simp] theorem t68 : T 68 = ⟨.slice 76, 1, 24, [.slice none 0 0], []⟩ := by kernel_rfl
@[simp] theorem t70 : T 70 = ⟨.other, 1, 8, [.nilFunc], []⟩ := by kernel_rfl
@[simp] theorem t71 : T 71 = ⟨.ptr 73, 1, 8, [.pointer none], []⟩ := by kernel_rfl
@[simp] theorem t72 : T 72 = ⟨.struct [(0, 68), (1, 39)], 2, 32, [.slice none 0 0, .int .i64 0], []⟩ := by kernel_rfl
@[simp] theorem t73 : T 73 = ⟨.struct [(0, 68), (1, 39)], 2, 32, [.slice none 0 0, .int .i64 0], []⟩ := by kernel_rfl
@[simp] theorem t74 : T 74 = ⟨.other, 1, 8, [.nilFunc], []⟩ := by kernel_rfl
@[simp] theorem t75 : T 75 = ⟨.struct [(0, 9), (1, 3)], 2, 24, [.string .empty, .int .i64 0], [.str, .int .i64]⟩ := by kernel_rfl
@[simp] theorem t76 : T 76 = ⟨.struct [(0, 9), (1, 3)], 2, 24, [.string .empty, .int .i64 0], [.str, .int .i64]⟩ := by kernel_rfl
@[simp] theorem t77 : T 77 = ⟨.ptr 79, 1, 8, [.pointer none], []⟩ := by kernel_rfl
@[simp] theorem t78 : T 78 = ⟨.struct [(0, 9), (1, 59), (2, 3), (3, 4), (4, 4)], 5, 56, [.string .empty, .slice none 0 0, .int .i64 0, .bool false, .bool false], []⟩ := by kernel_rfl
@[simp] theorem t79 : T 79 = ⟨.struct [(0, 9), (1, 59), (2, 3), (3, 4), (4, 4)], 5, 56, [.string .empty, .slice none 0 0, .int .i64 0, .bool false, .bool false], []⟩ := by kernel_rfl
@[simp] theorem t80 : T 80 = ⟨.other, 1, 8, [.nilFunc], []⟩ := by kernel_rfl
@[simp] theorem t81 : T 81 = ⟨.arr 26 9, 26, 416, [.string .empty, .string .empty, .string .empty, .string .empty, .string .empty, .string .empty, .string .empty, .string .empty, .string .empty, .string .empty, .string .empty, .string .empty, .string .empty, .string .empty, .string .empty, .string .empty, .string .empty, .string .empty, .string .empty, .string .empty, .string .empty, .string .empty, .string .empty, .string .empty, .string .empty, .string .empty], []⟩ := by kernel_rfl
@[simp] theorem t82 : T 82 = ⟨.other, 1, 8, [.nilFunc], []⟩ := by kernel_rfl
@[simp] theorem t83 : T 83 = ⟨.other, 1, 8, [.nilFunc], []⟩ := by kernel_rfl
@[simp] theorem t84 : T 84 = ⟨.other, 1, 8, [.nilFunc], []⟩ := by kernel_rfl
@[simp] theorem t85 : T 85 = ⟨.other, 1, 8, [.nilFunc], []⟩ := by kernel_rfl
@[simp] theorem t86 : T 86 = ⟨.other, 1, 8, [.nilFunc], []⟩ := by kernel_rfl
@[simp] theorem t87 : T 87 = ⟨.other, 1, 8, [.nilFunc], []⟩ := by kernel_rfl
@[simp] theorem t88 : T 88 = ⟨.other, 1, 8, [.nilFunc], []⟩ := by kernel_rfl
@[simp] theorem t89 : T 89 = ⟨.other, 1, 8, [.nilFunc], []⟩ := by kernel_rfl
@[simp] theorem t90 : T 90 = ⟨.other, 1, 8, [.nilFunc], []⟩ := by kernel_rfl
@[simp] theorem t91 : T 91 = ⟨.other, 1, 8, [.nilFunc], []⟩ := by kernel_rfl
@[simp] theorem t92 : T 92 = ⟨.other, 1, 8, [.nilFunc], []⟩ := by kernel_rfl
@[simp] theorem t93 : T 93 = ⟨.other, 1, 8, [.nilFunc], []⟩ := by kernel_rfl
@[simp] theorem t94 : T 94 = ⟨.int .u64, 1, 8, [.int .u64 0], []⟩ := by kernel_rfl
@[simp] theorem t95 : T 95 = ⟨.other, 1, 8, [.nilFunc], []⟩ := by kernel_rfl
@[simp] theorem t96 : T 96 = ⟨.other, 1, 8, [.nilFunc], []⟩ := by kernel_rfl
@[simp] theorem t97 : T 97 = ⟨.other, 1, 8, [.nilFunc], []⟩ := by kernel_rfl
@[simp] theorem t98 : T 98 = ⟨.arr 2 3, 2, 16, [.int .i64 0, .int .i64 0], []⟩ := by kernel_rfl
@[simp] theorem t99 : T 99 = ⟨.arr 37 98, 74, 592, [.int .i64 0, .int .i64 0, .int .i64 0, .int .i64 0, .int .i64 0, .int .i64 0, .int .i64 0, .int .i64 0, .int .i64 0, .int .i64 0, .int .i64 0, .int .i64 0, .int .i64 0, .int .i64 0, .int .i64 0, .int .i64 0, .int .i64 0, .int .i64 0, .int .i64 0, .int .i64 0, .int .i64 0, .int .i64 0, .int .i64 0, .int .i64 0, .int .i64 0, .int .i64 0, .int .i64 0, .int .i64 0, .int .i64 0, .int .i64 0, .int .i64 0, .int .i64 0, .int .i64 0, .int .i64 0, .int .i64 0, .int .i64 0, .int .i64 0, .int .i64 0, .int .i64 0, .int .i64 0, .int .i64 0, .int .i64 0, .int .i64 0, .int .i64 0, .int .i64 0, .int .i64 0, .int .i64 0, .int .i64 0, .int .i64 0, .int .i64 0, .int .i64 0, .int .i64 0, .int .i64 0, .int .i64 0, .int .i64 0, .int .i64 0, .int .i64 0, .int .i64 0, .int .i64 0, .int .i64 0, .int .i64 0, .int .i64 0, .int .i64 0, .int .i64 0, .int .i64 0, .int .i64 0, .int .i64 0, .int .i64 0, .int .i64 0, .int .i64 0, .int .i64 0, .int .i64 0, .int .i64 0, .int .i64 0], []⟩ := by kernel_rfl
@[simp] theorem t100 : T 100 = ⟨.other, 1, 8, [.nilFunc], []⟩ := by kernel_rfl
@[simp] theorem t102 : T 102 = ⟨.other, 1, 8, [.nilFunc], []⟩ := by kernel_rfl
@[simp] theorem t103 : T 103 = ⟨.other, 1, 8, [.nilFunc], []⟩ := by kernel_rfl
@[simp] theorem t104 : T 104 = ⟨.other, 1, 8, [.nilFunc], []⟩ := by kernel_rfl
@[simp] theorem t106 : T 106 = ⟨.other, 1, 8, [.nilFunc], []⟩ := by kernel_rfl
@[simp] theorem t107 : T 107 = ⟨.other, 1, 8, [.nilFunc], []⟩ := by kernel_rfl
@[simp] theorem t108 : T 108 = ⟨.other, 1, 8, [.nilFunc], []⟩ := by kernel_rfl
@[simp] theorem t109 : T 109 = ⟨.other, 1, 8, [.nilFunc], []⟩ := by kernel_rfl
@[simp] theorem t113 : T 113 = ⟨.other, 1, 8, [.nilFunc], []⟩ := by kernel_rfl
@[simp] theorem t114 : T 114 = ⟨.other, 1, 8, [.nilFunc], []⟩ := by kernel_rfl
@[simp] theorem t115 : T 115 = ⟨.int .i64, 1, 8, [.int .i64 0], []⟩ := by kernel_rfl
@[simp] theorem t117 : T 117 = ⟨.other, 1, 8, [.nilFunc], []⟩ := by kernel_rfl
@[simp] theorem t118 : T 118 = ⟨.other, 1, 8, [.nilFunc], []⟩ := by kernel_rfl
@[simp] theorem t119 : T 119 = ⟨.other, 1, 8, [.nilFunc], []⟩ := by kernel_rfl
@[simp] theorem t121 : T 121 = ⟨.other, 1, 8, [.nilFunc], []⟩ := by kernel_rfl
@[simp] theorem t122 : T 122 = ⟨.other, 1, 8, [.nilFunc], []⟩ := by kernel_rfl
@[simp] theorem t123 : T 123 = ⟨.int .u32, 1, 4, [.int .u32 0], []⟩ := by kernel_rfl
@[simp] theorem t124 : T 124 = ⟨.other, 1, 8, [.nilFunc], []⟩ := by kernel_rfl
@[simp] theorem t125 : T 125 = ⟨.int .u64, 1, 8, [.int .u64 0], []⟩ := by kernel_rfl
@[simp] theorem t126 : T 126 = ⟨.slice 96, 1, 24, [.slice none 0 0], []⟩ := by kernel_rfl
@[simp] theorem t127 : T 127 = ⟨.other, 1, 8, [.nilFunc], []⟩ := by kernel_rfl
@[simp] theorem t128 : T 128 = ⟨.other, 1, 8, [.nilFunc], []⟩ := by kernel_rfl
@[simp] theorem t129 : T 129 = ⟨.other, 1, 8, [.nilFunc], []⟩ := by kernel_rfl
@[simp] theorem t130 : T 130 = ⟨.ptr 25, 1, 8, [.pointer none], []⟩ := by kernel_rfl
@[simp] theorem t131 : T 131 = ⟨.other, 1, 8, [.nilFunc], []⟩ := by kernel_rfl
@[simp] theorem t132 : T 132 = ⟨.other, 1, 8, [.nilFunc], []⟩ := by kernel_rfl
@[simp] theorem t133 : T 133 = ⟨.int .u64, 1, 8, [.int .u64 0], []⟩ := by kernel_rfl
@[simp] theorem t134 : T 134 = ⟨.other, 1, 8, [.nilFunc], []⟩ := by kernel_rfl
@[simp] theorem t135 : T 135 = ⟨.other, 1, 8, [.nilFunc], []⟩ := by kernel_rfl
@[simp] theorem t136 : T 136 = ⟨.other, 1, 8, [.nilFunc], []⟩ := by kernel_rfl
@[simp] theorem t137 : T 137 = ⟨.ptr 3, 1, 8, [.pointer none], []⟩ := by kernel_rfl
@[simp] theorem t138 : T 138 = ⟨.other, 1, 8, [.nilFunc], []⟩ := by kernel_rfl
@[simp] theorem t139 : T 139 = ⟨.other, 1, 8, [.nilFunc], []⟩ := by kernel_rfl
@[simp] theorem t140 : T 140 = ⟨.struct [(0, 9), (1, 3)], 2, 24, [.string .empty, .int .i64 0], [.str, .int .i64]⟩ := by kernel_rfl
@[simp] theorem t141 : T 141 = ⟨.struct [(0, 9), (1, 3)], 2, 24, [.string .empty, .int .i64 0], [.str, .int .i64]⟩ := by kernel_rfl
@[simp] theorem t142 : T 142 = ⟨.arr 6 141, 12, 144, [.string .empty, .int .i64 0, .string .empty, .int .i64 0, .string .empty, .int .i64 0, .string .empty, .int .i64 0, .string .empty, .int .i64 0, .string .empty, .int .i64 0], [.str, .int .i64, .str, .int .i64, .str, .int .i64, .str, .int .i64, .str, .int .i64, .str, .int .i64]⟩ := by kernel_rfl
@[simp] theorem t143 : T 143 = ⟨.arr 24 5, 24, 24, [.int .u8 0, .int .u8 0, .int .u8 0, .int .u8 0, .int .u8 0, .int .u8 0, .int .u8 0, .int .u8 0, .int .u8 0, .int .u8 0, .int .u8 0, .int .u8 0, .int .u8 0, .int .u8 0, .int .u8 0, .int .u8 0, .int .u8 0, .int .u8 0, .int .u8 0, .int .u8 0, .int .u8 0, .int .u8 0, .int .u8 0, .int .u8 0], []⟩ := by kernel_rfl
@[simp] theorem t144 : T 144 = ⟨.other, 1, 8, [.nilFunc], []⟩ := by kernel_rfl
@[simp] theorem t146 : T 146 = ⟨.other, 1, 8, [.nilFunc], []⟩ := by kernel_rfl
@[simp] theorem t148 : T 148 = ⟨.other, 1, 8, [.nilFunc], []⟩ := by kernel_rfl
@[simp] theorem t149 : T 149 = ⟨.int .i64, 1, 8, [.int .i64 0], []⟩ := by kernel_rfl
@[simp] theorem t151 : T 151 = ⟨.other, 1, 8, [.nilFunc], []⟩ := by kernel_rfl
@[simp] theorem t152 : T 152 = ⟨.ptr 168, 1, 8, [.pointer none], []⟩ := by kernel_rfl
@[simp] theorem t153 : T 153 = ⟨.other, 1, 8, [.nilFunc], []⟩ := by kernel_rfl
@[simp] theorem t154 : T 154 = ⟨.other, 1, 8, [.nilFunc], []⟩ := by kernel_rfl
@[simp] theorem t155 : T 155 = ⟨.ptr 133, 1, 8, [.pointer none], []⟩ := by kernel_rfl
@[simp] theorem t156 : T 156 = ⟨.other, 1, 8, [.nilFunc], []⟩ := by kernel_rfl
@[simp] theorem t157 : T 157 = ⟨.other, 1, 8, [.nilFunc], []⟩ := by kernel_rfl
@[simp] theorem t158 : T 158 = ⟨.arr 20 125, 20, 160, [.int .u64 0, .int .u64 0, .int .u64 0, .int .u64 0, .int .u64 0, .int .u64 0, .int .u64 0, .int .u64 0, .int .u64 0, .int .u64 0, .int .u64 0, .int .u64 0, .int .u64 0, .int .u64 0, .int .u64 0, .int .u64 0, .int .u64 0, .int .u64 0, .int .u64 0, .int .u64 0], []⟩ := by kernel_rfl
@[simp] theorem t159 : T 159 = ⟨.arr 65 5, 65, 65, [.int .u8 0, .int .u8 0, .int .u8 0, .int .u8 0, .int .u8 0, .int .u8 0, .int .u8 0, .int .u8 0, .int .u8 0, .int .u8 0, .int .u8 0, .int .u8 0, .int .u8 0, .int .u8 0, .int .u8 0, .int .u8 0, .int .u8 0, .int .u8 0, .int .u8 0, .int .u8 0, .int .u8 0, .int .u8 0, .int .u8 0, .int .u8 0, .int .u8 0, .int .u8 0, .int .u8 0, .int .u8 0, .int .u8 0, .int .u8 0, .int .u8 0, .int .u8 0, .int .u8 0, .int .u8 0, .int .u8 0, .int .u8 0, .int .u8 0, .int .u8 0, .int .u8 0, .int .u8 0, .int .u8 0, .int .u8 0, .int .u8 0, .int .u8 0, .int .u8 0, .int .u8 0, .int .u8 0, .int .u8 0, .int .u8 0, .int .u8 0, .int .u8 0, .int .u8 0, .int .u8 0, .int .u8 0, .int .u8 0, .int .u8 0, .int .u8 0, .int .u8 0, .int .u8 0, .int .u8 0, .int .u8 0, .int .u8 0, .int .u8 0, .int .u8 0, .int .u8 0], []⟩ := by kernel_rfl
@[simp] theorem t160 : T 160 = ⟨.other, 1, 8, [.nilFunc], []⟩ := by kernel_rfl
@[simp] theorem t161 : T 161 = ⟨.other, 1, 8, [.nilFunc], []⟩ := by kernel_rfl
@[simp] theorem t162 : T 162 = ⟨.slice 141, 1, 24, [.slice none 0 0], []⟩ := by kernel_rfl
@[simp] theorem t163 : T 163 = ⟨.other, 1, 8, [.nilFunc], []⟩ := by kernel_rfl
@[simp] theorem t165 : T 165 = ⟨.other, 1, 8, [.nilFunc], []⟩ := by kernel_rfl
@[simp] theorem t166 : T 166 = ⟨.other, 1, 8, [.nilFunc], []⟩ := by kernel_rfl
@[simp] theorem t169 : T 169 = ⟨.other, 1, 8, [.nilFunc], []⟩ := by kernel_rfl
@[simp] theorem t171 : T 171 = ⟨.other, 1, 8, [.nilFunc], []⟩ := by kernel_rfl
@[simp] theorem t172 : T 172 = ⟨.other, 1, 8, [.nilFunc], []⟩ := by kernel_rfl
@[simp] theorem t173 : T 173 = ⟨.ptr 5, 1, 8, [.pointer none], []⟩ := by kernel_rfl
@[simp] theorem t174 : T 174 = ⟨.ptr 176, 1, 8, [.pointer none], []⟩ := by kernel_rfl
@[simp] theorem t175 : T 175 = ⟨.struct [(0, 9)], 1, 16, [.string .empty], [.str]⟩ := by kernel_rfl
@[simp] theorem t176 : T 176 = ⟨.struct [(0, 9)], 1, 16, [.string .empty], [.str]⟩ := by kernel_rfl
@[simp] theorem t177 : T 177 = ⟨.arr 32 5, 32, 32, [.int .u8 0, .int .u8 0, .int .u8 0, .int .u8 0, .int .u8 0, .int .u8 0, .int .u8 0, .int .u8 0, .int .u8 0, .int .u8 0, .int .u8 0, .int .u8 0, .int .u8 0, .int .u8 0, .int .u8 0, .int .u8 0, .int .u8 0, .int .u8 0, .int .u8 0, .int .u8 0, .int .u8 0, .int .u8 0, .int .u8 0, .int .u8 0, .int .u8 0, .int .u8 0, .int .u8 0, .int .u8 0, .int .u8 0, .int .u8 0, .int .u8 0, .int .u8 0], []⟩ := by kernel_rfl
@[simp] theorem t178 : T 178 = ⟨.arr 64 5, 64, 64, [.int .u8 0, .int .u8 0, .int .u8 0, .int .u8 0, .int .u8 0, .int .u8 0, .int .u8 0, .int .u8 0, .int .u8 0, .int .u8 0, .int .u8 0, .int .u8 0, .int .u8 0, .int .u8 0, .int .u8 0, .int .u8 0, .int .u8 0, .int .u8 0, .int .u8 0, .int .u8 0, .int .u8 0, .int .u8 0, .int .u8 0, .int .u8 0, .int .u8 0, .int .u8 0, .int .u8 0, .int .u8 0, .int .u8 0, .int .u8 0, .int .u8 0, .int .u8 0, .int .u8 0, .int .u8 0, .int .u8 0, .int .u8 0, .int .u8 0, .int .u8 0, .int .u8 0, .int .u8 0, .int .u8 0, .int .u8 0, .int .u8 0, .int .u8 0, .int .u8 0, .int .u8 0, .int .u8 0, .int .u8 0, .int .u8 0, .int .u8 0, .int .u8 0, .int .u8 0, .int .u8 0, .int .u8 0, .int .u8 0, .int .u8 0, .int .u8 0, .int .u8 0, .int .u8 0, .int .u8 0, .int .u8 0, .int .u8 0, .int .u8 0, .int .u8 0], []⟩ := by kernel_rfl
@[simp] theorem t184 : T 184 = ⟨.int .u8, 1, 1, [.int .u8 0], []⟩ := by kernel_rfl
@[simp] theorem t185 : T 185 = ⟨.int .u8, 1, 1, [.int .u8 0], []⟩ := by kernel_rfl
@[simp] theorem t186 : T 186 = ⟨.other, 1, 8, [.nilFunc], []⟩ := by kernel_rfl
@[simp] theorem t187 : T 187 = ⟨.int .i32, 1, 4, [.int .i32 0], []⟩ := by kernel_rfl
@[simp] theorem t188 : T 188 = ⟨.int .i32, 1, 4, [.int .i32 0], []⟩ := by kernel_rfl
@[simp] theorem t189 : T 189 = ⟨.struct [(0, 12), (1, 12), (2, 123), (3, 184), (4, 5), (5, 5), (6, 185), (7, 186), (8, 173), (9, 187), (10, 188)], 11, 48, [.int .u64 0, .int .u64 0, .int .u32 0, .int .u8 0, .int .u8 0, .int .u8 0, .int .u8 0, .nilFunc, .pointer none, .int .i32 0, .int .i32 0], []⟩ := by kernel_rfl
@[simp] theorem t190 : T 190 = ⟨.struct [(0, 12), (1, 12), (2, 123), (3, 184), (4, 5), (5, 5), (6, 185), (7, 186), (8, 173), (9, 187), (10, 188)], 11, 48, [.int .u64 0, .int .u64 0, .int .u32 0, .int .u8 0, .int .u8 0, .int .u8 0, .int .u8 0, .nilFunc, .pointer none, .int .i32 0, .int .i32 0], []⟩ := by kernel_rfl
end Go.Eng
namespace Go.Eng
section
variable {P : Program} {T : TypeId → TyI} {N : Nat} {w0 : Base} {X : Nat → Prop} {Q : LX → Env → Obs → Prop} {env : Env} {H : Obs}
theorem LWp.rz (hT : TOk P T) (hW : TWf T) {id : Nat} {l : List Oper} (h : (runL P T N l (fun _ => none) env H).ok ∧ Q .normal (runL P T N l (fun _ => none) env H).env (runL P T N l (fun _ => none) env H).H) :
  LWp P N w0 X (.region id l.toArray false) Q env H := LWp.reg hT hW (fun _ => none) (fun _ => ⟨rfl, fun _ h => h⟩) h
theorem LWp.ro (hT : TOk P T) (hW : TWf T) {id : Nat} {l : List Oper} (orc : Nat → Option Orc) (h : (runL P T N l orc env H).ok ∧ Q .normal (runL P T N l orc env H).env (runL P T N l orc env H).H)
  (hdet : ∀ d, DetS (orc d) := by intro d; first | exact ⟨rfl, fun _ h => h⟩ | (split <;> exact ⟨rfl, fun _ h => h⟩)) : LWp P N w0 X (.region id l.toArray false) Q env H := LWp.reg hT hW orc hdet h
theorem LWp.sz (hT : TOk P T) (hW : TWf T) {id : Nat} {l : List Oper} {y : Code} (h : (runL P T N l (fun _ => none) env H).ok ∧ seqQ (LWp P N w0 X y Q) Q .normal (runL P T N l (fun _ => none) env H).env (runL P T N l (fun _ => none) env H).H) :
  LWp P N w0 X (.seq (.region id l.toArray false) y) Q env H := LWp.seq (LWp.rz hT hW h)
theorem LWp.so (hT : TOk P T) (hW : TWf T) {id : Nat} {l : List Oper} {y : Code} (orc : Nat → Option Orc) (h : (runL P T N l orc env H).ok ∧ seqQ (LWp P N w0 X y Q) Q .normal (runL P T N l orc env H).env (runL P T N l orc env H).H)
  (hdet : ∀ d, DetS (orc d) := by intro d; first | exact ⟨rfl, fun _ h => h⟩ | (split <;> exact ⟨rfl, fun _ h => h⟩)) : LWp P N w0 X (.seq (.region id l.toArray false) y) Q env H := LWp.seq (LWp.ro hT hW orc h hdet)
end
end Go.Eng
namespace Go.Eng
open Go.Proofs
theorem hMixed : Tryz.prog.follows .mixedOrders = true := by kernel_rfl
theorem nm_eq (a b : Nm) : (decide (a.who = b.who) && decide (a.seq = b.seq)) = decide (a = b) := by
 cases a; cases b; simp [Bool.decide_and]
theorem df_eq (a b : Df) : (a.name == b.name && a.text == b.text) = decide (a = b) := by
 cases a; cases b; simp [Bool.beq_eq_decide_eq]
attribute [local simp] runL stepL evalG evalOp opLV constLV putEnv dstOk upd upds Res.plain Res.cond Res.fail evalBin evalUn seqQ blockQ argsEnv lookL lookH RetIs memless freshL evalPick evalMin bval bok evalLen evalIn strip whenC guardOps guardC slotsOf
 runM foldS stepI stepM maskE wrIn lk renO lookN evalCall evalCallee optAll resLV resObj retLV retObj retsLV retsObj evalLoad evalIndexAddr evalField solid cellsD_agg cellsD_int cellsD_bool cellsD_str cellsD_sl cellsD_ro cellsD_fn cellsL_agg cellsL_dagg cellsL_int cellsL_bool cellsL_str cellsL_sl cellsL_fn cellsL_ow cellsL_bx cellsL_lfn cellsL_nl takeL takeD mkAgg allD eqD eqDs kindsAre kindIs LObj.live TK.isNone TK.agg TK.isBool TK.isStr TK.isStruct Op.operands Call.operands
 evalBuildSlice evalAppend elemsOf evalStore evalBuild fillL lookupF putL evalSlice bound evalConv elemsS freezes frozen loadR
 mkEnv_at mkObs_at close_d close_agg close_ow close_bx close_fn close_nl touch_d touch_agg touch_ow touch_bx touch_fn touch_nl ren_d ren_agg ren_bx ren_rp ren_ow ren_fn ren_nl ren_junk retQ_ret retQ2_ret condQ_bool Nm.d Df.d Ed.d nmsD dfsD strsD edsD retC_ret nm_eq df_eq take_map_len take_map_app
 nm_t nm_d nm_td df_t df_d df_td str_t str_d str_td ed_t ed_d ed_td
 evalAppendIn evalBuildSliceC evalCopyC shortL evalApart evalAppendC evalAppendZ evalAppendG evalCapC isOc TK.isInt close_oc touch_oc ren_oc cellsL_oc evalCut evalClear evalCopy evalMake evalWrap evalCap evalNil isNilC lenL isInp gorc gorc2
 mapOf findD keyEq keyOk evalMakeMap evalRange zeroD zeroDV argsG shutG outN lenv retG0_ret retG0_normal retG1_ret retGR_ret renO close_mp touch_mp ren_mp optAll_d optAll_d' touch_ds cellsL_mp cellsD_mp cellsL_dmp
 evalMapSet evalPtr TK.isPtr evalToArr firstL retN_ret retsQ rvarL close_bm touch_bm ren_bm cellsD_bm cellsL_bm cellsL_lbm
attribute [local simp] cutQ_normal cutQ_ret cutQ_exit
section
attribute [local simp] Res.cond Nd.d_eq nd_t nd_dr nd_td ndsD
structure BC where
 b : Bool
theorem max_nat {a b : Nat} : (if a < b then (b : Int) else (a : Int)) = ((max a b : Nat) : Int) := by split <;> omega
theorem kid_weigh {x : Nd} {i : Nat} (hi : i < x.kids.length) : weighN x.kids[i] < weighN x := by
 have := weigh_mem (List.getElem_mem hi)
 rw [weighN_eq x]; omega
theorem kids_weigh (x : Nd) : x.kids.length < weighN x := by
 have := weigh_len (l := x.kids)
 rw [weighN_eq x]; omega
theorem Around_ok (n m : Int) (h1 : -9223372036854775808 ≤ n) (h2 : n ≤ 9223372036854775807) (hm : m ≠ 0) : Ok Tryz.prog 28 [I64 n, I64 m] ⟨.d (I64 (around n m)), true⟩ := by
 refine Ok.ret Tryz.func28 (by kernel_rfl) (c := _) rfl Tryz.ntmps28 (by simp) Tryz.results28 (by intro _ h; cases h) fun w0 X hp => ?_
 refine LWp.sz hT hW ?_
 simp
 refine LWp.seq ?_
 refine LWp.sz hT hW ?_
 simp
 refine LWp.iff ?_
 simp
 refine ⟨fun h1 => ?_, fun h1 => ?_⟩
 ·refine LWp.rz hT hW ?_
  simp
  refine ⟨by omega, ?_⟩
  refine LWp.sz hT hW ?_
  simp
  refine ⟨hm, ?_⟩
  refine LWp.ret ?_
  simp [around, h1]
 ·refine LWp.skip ?_
  simp
  refine LWp.sz hT hW ?_
  simp
  refine ⟨hm, ?_⟩
  refine LWp.ret ?_
  have : ¬ n < 0 := by omega
  simp [around, this]
theorem At_ok (l : List Int) (i m : Int) (hl : ∀ n ∈ l, -9223372036854775808 ≤ n ∧ n ≤ 9223372036854775807) (hm : m ≠ 0) : Ok Tryz.prog 47 [.sl (l.map I64), I64 i, I64 m] ⟨.d (I64 (atL l i m)), true⟩ := by
 refine Ok.ret Tryz.func47 (by kernel_rfl) (c := _) rfl Tryz.ntmps47 (by simp) Tryz.results47 (by intro _ h; cases h) fun w0 X hp => ?_
 refine LWp.sz hT hW ?_
 simp
 refine LWp.seq ?_
 refine LWp.seq ?_
 refine LWp.len (t := 0) rfl fun hlen => ?_
 simp at hlen
 refine LWp.rz hT hW ?_
 simp
 refine LWp.iff ?_
 simp
 refine ⟨fun h1 => ?_, fun h1 h2 => ?_⟩
 ·refine LWp.sz hT hW ?_
  simp
  refine LWp.ret ?_
  simp [atL, h1]
 ·obtain ⟨k, rfl⟩ := Int.eq_ofNat_of_zero_le h1
  have hi' : k < l.length := by omega
  refine LWp.skip ?_
  simp
  refine LWp.so hT hW (fun | 20 => some <| .plain ⟨.d (I64 (around l[k] m)), true⟩ | _ => none) ?_
  simp [h2, hi']
  refine ⟨Around_ok _ _ (hl _ (List.getElem_mem hi')).1 (hl _ (List.getElem_mem hi')).2 hm, ?_⟩
  refine LWp.ret ?_
  simp [atL, hi']
  omega
theorem depth_step (x : Nd) (hw : weighN x ≤ 1000000000) (ih : ∀ y ∈ x.kids, weighN y ≤ 1000000000 → Ok Tryz.prog 38 [y.d] ⟨.d (I64 (depthN y)), true⟩) : Ok Tryz.prog 38 [x.d] ⟨.d (I64 (depthN x)), true⟩ := by
 refine Ok.ret Tryz.func38 (by kernel_rfl) (c := _) rfl Tryz.ntmps38 (by simp) Tryz.results38 (by intro _ h; cases h) fun w0 X hp => ?_
 refine LWp.sz hT hW ?_
 simp
 refine LWp.sz hT hW ?_
 simp
 refine LWp.seq ?_
 refine LWp.sz hT hW ?_
 simp
 refine LWp.block ?_
 refine LWp.loopW (ι := Nat) (fun i => mkEnv [(3, .d (I64 (depthL (x.kids.take i)))), (7, .d (ndsD x.kids)), (8, .d (I64 x.kids.length)), (9, .d (I64 i))]) (fun i => mkObs []) (fun i => i ≤ x.kids.length) (fun i => x.kids.length - i) 0 (Weak.to [3, 7, 8, 9] [] (by decide) (by decide) (by simp [hp]) (by simp [depthL]) (by simp)) (Nat.zero_le _) fun i hi3 => ?_
 refine LWp.sz hT hW ?_
 simp
 refine LWp.seq ?_
 refine LWp.iff ?_
 simp
 refine ⟨fun h3 => ?_, fun h3 => ?_⟩
 ·refine LWp.skip ?_
  simp
  refine LWp.seq ?_
  refine LWp.block ?_
  refine LWp.seq ?_
  have hi : i < x.kids.length := by omega
  refine LWp.rz hT hW ?_
  simp [hi]
  have hk := ih _ (List.getElem_mem hi) (by have := kid_weigh hi; omega)
  refine LWp.ro hT hW (fun | 15 => some <| .plain ⟨.d (I64 (depthN x.kids[i])), true⟩ | _ => none) ?_
  simp
  refine ⟨by simpa using hk, ?_⟩
  have := kids_weigh x
  refine LWp.rz hT hW ?_
  simp
  refine ⟨by omega, ?_⟩
  refine loopQ.mk (i + 1) (Weak.to [3, 7, 8, 9] [] (by decide) (by decide) (by simp [hp]) (by simp [depthL_succ hi, max_nat]) (by simp)) ?_ ?_
  ·omega
  ·omega
 ·refine LWp.exit ?_
  simp
  refine LWp.seq ?_
  have hi : i = x.kids.length := by omega
  subst hi
  rw [List.take_length]
  have h1 := depth_size x
  have h2 := size_weigh x
  have h3 := depthN_eq x
  refine LWp.rz hT hW ?_
  simp
  refine ⟨by omega, ?_⟩
  refine LWp.ret ?_
  simp [h3]
theorem size_step (x : Nd) (hw : weighN x ≤ 1000000000) (ih : ∀ y ∈ x.kids, weighN y ≤ 1000000000 → Ok Tryz.prog 18 [y.d] ⟨.d (I64 (sizeN y)), true⟩) : Ok Tryz.prog 18 [x.d] ⟨.d (I64 (sizeN x)), true⟩ := by
 refine Ok.ret Tryz.func18 (by kernel_rfl) (c := _) rfl Tryz.ntmps18 (by simp) Tryz.results18 (by intro _ h; cases h) fun w0 X hp => ?_
 refine LWp.sz hT hW ?_
 simp
 refine LWp.sz hT hW ?_
 simp
 refine LWp.seq ?_
 refine LWp.sz hT hW ?_
 simp
 refine LWp.block ?_
 refine LWp.loopW (ι := Nat) (fun i => mkEnv [(3, .d (I64 ((1 + sizeL (x.kids.take i) : Nat) : Int))), (7, .d (ndsD x.kids)), (8, .d (I64 x.kids.length)), (9, .d (I64 i))]) (fun i => mkObs []) (fun i => i ≤ x.kids.length) (fun i => x.kids.length - i) 0 (Weak.to [3, 7, 8, 9] [] (by decide) (by decide) (by simp [hp]) (by simp [sizeL]) (by simp)) (Nat.zero_le _) fun i hi3 => ?_
 refine LWp.sz hT hW ?_
 simp
 refine LWp.seq ?_
 refine LWp.iff ?_
 simp
 refine ⟨fun h3 => ?_, fun h3 => ?_⟩
 ·refine LWp.skip ?_
  simp
  refine LWp.seq ?_
  refine LWp.block ?_
  refine LWp.seq ?_
  have hi : i < x.kids.length := by omega
  refine LWp.rz hT hW ?_
  simp [hi]
  have hk := ih _ (List.getElem_mem hi) (by have := kid_weigh hi; omega)
  have q1 := sizeL_take_le (l := x.kids) i
  have q2 := size_weigh x
  have q3 := size_weigh x.kids[i]
  have q4 := kid_weigh hi
  rw [sizeN_eq x] at q2
  refine LWp.ro hT hW (fun | 15 => some <| .plain ⟨.d (I64 (sizeN x.kids[i])), true⟩ | _ => none) ?_
  simp
  refine ⟨⟨by simpa using hk, by omega⟩, ?_⟩
  have := kids_weigh x
  refine LWp.rz hT hW ?_
  simp
  refine ⟨by omega, ?_⟩
  refine loopQ.mk (i + 1) (Weak.to [3, 7, 8, 9] [] (by decide) (by decide) (by simp [hp]) (by simp [sizeL_succ hi, Int.add_assoc]) (by simp)) ?_ ?_
  ·omega
  ·omega
 ·refine LWp.exit ?_
  simp
  refine LWp.sz hT hW ?_
  simp
  refine LWp.ret ?_
  have hi : i = x.kids.length := by omega
  subst hi
  rw [List.take_length, sizeN_eq x]
  simp [Int.add_comm]
theorem depth_ok (x : Nd) (hw : weighN x ≤ 1000000000) : Ok Tryz.prog 38 [x.d] ⟨.d (I64 (depthN x)), true⟩ := by
 revert hw
 exact Nd.ind (p := fun x => weighN x ≤ 1000000000 → Ok Tryz.prog 38 [x.d] ⟨.d (I64 (depthN x)), true⟩) (fun k t n ks ih hw => depth_step _ hw ih) x
theorem size_ok (x : Nd) (hw : weighN x ≤ 1000000000) : Ok Tryz.prog 18 [x.d] ⟨.d (I64 (sizeN x)), true⟩ := by
 revert hw
 exact Nd.ind (p := fun x => weighN x ≤ 1000000000 → Ok Tryz.prog 18 [x.d] ⟨.d (I64 (sizeN x)), true⟩) (fun k t n ks ih hw => size_step _ hw ih) x
end
open Go.Proofs
section
attribute [local simp] Res.cond Nd.d_eq nd_t nd_dr nd_td ndsD
def idxI {α : Type} (p : α → Bool) (l : List α) : Int := match l.findIdx? p with | some i => i | none => -1
theorem idxI_some {α : Type} {p : α → Bool} {l : List α} {i : Nat} (h : l.findIdx? p = some i) : idxI p l = i := by simp [idxI, h]
theorem idxI_none {α : Type} {p : α → Bool} {l : List α} (h : l.findIdx? p = none) : idxI p l = -1 := by simp [idxI, h]
theorem idxI_nonneg {α : Type} {p : α → Bool} {l : List α} : decide (0 ≤ idxI p l) = l.any p := by
 unfold idxI
 split
 ·rename_i i hi
  obtain ⟨h1, h2, _⟩ := List.findIdx?_eq_some_iff_getElem.1 hi
  have : l.any p = true := any_at h1 h2
  rw [this]; simp
 ·rename_i hi
  rw [List.findIdx?_eq_none_iff] at hi
  have : l.any p = false := by rw [List.any_eq_false]; intro x hx; rw [hi x hx]; simp
  rw [this]; simp
theorem idxI_nonneg' {α : Type} {p : α → Bool} {l : List α} : 0 ≤ idxI p l ↔ l.any p = true := by
 rw [← idxI_nonneg]; simp
theorem IndexOfStr_ok (l : List Str) (n : Str) : Ok Tryz.prog 72 [strsD l, .str n] ⟨.d (I64 (idxI (fun x => decide (n = x)) l)), true⟩ := by
 refine Ok.ret Tryz.func72 (by kernel_rfl) (c := _) rfl Tryz.ntmps72 (by simp) Tryz.results72 (by intro _ h; cases h) fun w0 X hp => ?_
 refine LWp.len (t := 0) rfl fun hlen => ?_
 simp at hlen
 refine LWp.sz hT hW ?_
 simp
 refine LWp.seq ?_
 refine LWp.sz hT hW ?_
 simp
 refine LWp.block ?_
 refine LWp.loopW (ι := Nat) (fun i => mkEnv [(0, .d (strsD l)), (1, .d (.str n)), (7, .d (I64 l.length)), (8, .d (I64 i))]) (fun i => mkObs []) (fun i => i ≤ l.length ∧ Pre (fun x => decide (n = x)) l i) (fun i => l.length - i) 0 (Weak.to [0, 1, 7, 8] [] (by decide) (by decide) (by simp [hp]) (by simp) (by simp)) (⟨Nat.zero_le _, Pre.zero⟩) fun i hi2 => ?_
 refine LWp.sz hT hW ?_
 simp
 refine LWp.seq ?_
 refine LWp.iff ?_
 simp
 refine ⟨fun h2 => ?_, fun h2 => ?_⟩
 ·refine LWp.skip ?_
  simp
  refine LWp.seq ?_
  refine LWp.block ?_
  refine LWp.sz hT hW ?_
  simp
  refine LWp.sz hT hW ?_
  simp [h2]
  refine LWp.iff ?_
  simp
  refine ⟨fun h4 => ?_, fun h4 => ?_⟩
  ·refine LWp.sz hT hW ?_
   simp
   refine LWp.ret ?_
   simp [idxI_some (hi2.2.found h2 (by simpa using h4))]
  ·refine LWp.skip ?_
   simp
   refine LWp.rz hT hW ?_
   simp
   refine ⟨by omega, ?_⟩
   refine loopQ.mk (i + 1) (Weak.to [0, 1, 7, 8] [] (by decide) (by decide) (by simp [hp]) (by simp) (by simp)) ?_ ?_
   ·exact ⟨h2, hi2.2.succ h2 (by simpa using h4)⟩
   ·omega
 ·refine LWp.exit ?_
  simp
  refine LWp.sz hT hW ?_
  simp
  refine LWp.ret ?_
  simp [idxI_none (hi2.2.none (by omega))]
theorem InStr_ok (l : List Str) (n : Str) : Ok Tryz.prog 161 [strsD l, .str n] ⟨.d (.bool (decide (n ∈ l))), true⟩ := by
 refine Ok.ret Tryz.func161 (by kernel_rfl) (c := _) rfl Tryz.ntmps161 (by simp) Tryz.results161 (by intro _ h; cases h) fun w0 X hp => ?_
 refine LWp.sz hT hW ?_
 simp
 refine LWp.so hT hW (fun | 7 => some <| .plain ⟨.d (I64 (idxI (fun x => decide (n = x)) l)), true⟩ | _ => none) ?_
 simp
 refine ⟨IndexOfStr_ok l n, ?_⟩
 refine LWp.ret ?_
 simp [idxI_nonneg']
theorem IndexNd_ok (l : List Nd) (p : Nd → Bool) (g : FuncId) (cs : List DV) (hg : ∀ x ∈ l, Ok Tryz.prog g (x.d :: cs) ⟨.d (.bool (p x)), true⟩) : Ok Tryz.prog 100 [ndsD l, .fn g cs] ⟨.d (I64 (idxI p l)), true⟩ := by
 refine Ok.ret Tryz.func100 (by kernel_rfl) (c := _) rfl Tryz.ntmps100 (by simp) Tryz.results100 (by intro _ h; cases h) fun w0 X hp => ?_
 refine LWp.len (t := 0) rfl fun hlen => ?_
 simp at hlen
 refine LWp.sz hT hW ?_
 simp
 refine LWp.seq ?_
 refine LWp.sz hT hW ?_
 simp
 refine LWp.block ?_
 refine LWp.loopW (ι := Nat) (fun i => mkEnv [(0, .d (ndsD l)), (1, .d (.fn g cs)), (7, .d (I64 l.length)), (8, .d (I64 i))]) (fun i => mkObs []) (fun i => i ≤ l.length ∧ Pre p l i) (fun i => l.length - i) 0 (Weak.to [0, 1, 7, 8] [] (by decide) (by decide) (by simp [hp]) (by simp) (by simp)) (⟨Nat.zero_le _, Pre.zero⟩) fun i hi2 => ?_
 refine LWp.sz hT hW ?_
 simp
 refine LWp.seq ?_
 refine LWp.iff ?_
 simp
 refine ⟨fun h2 => ?_, fun h2 => ?_⟩
 ·refine LWp.skip ?_
  simp
  refine LWp.seq ?_
  refine LWp.block ?_
  refine LWp.sz hT hW ?_
  simp
  refine LWp.so hT hW (fun | 16 => some <| .plain ⟨.d (.bool (p l[i])), true⟩ | _ => none) ?_
  simp [h2]
  refine ⟨by simpa using hg l[i] (List.getElem_mem h2), ?_⟩
  refine LWp.iff ?_
  simp
  refine ⟨fun h4 => ?_, fun h4 => ?_⟩
  ·refine LWp.sz hT hW ?_
   simp
   refine LWp.ret ?_
   simp [idxI_some (hi2.2.found h2 h4)]
  ·refine LWp.skip ?_
   simp
   refine LWp.rz hT hW ?_
   simp
   refine ⟨by omega, ?_⟩
   refine loopQ.mk (i + 1) (Weak.to [0, 1, 7, 8] [] (by decide) (by decide) (by simp [hp]) (by simp) (by simp)) ?_ ?_
   ·exact ⟨h2, hi2.2.succ h2 h4⟩
   ·omega
 ·refine LWp.exit ?_
  simp
  refine LWp.sz hT hW ?_
  simp
  refine LWp.ret ?_
  simp [idxI_none (hi2.2.none (by omega))]
theorem AnyNd_ok (l : List Nd) (p : Nd → Bool) (g : FuncId) (cs : List DV) (hg : ∀ x ∈ l, Ok Tryz.prog g (x.d :: cs) ⟨.d (.bool (p x)), true⟩) : Ok Tryz.prog 63 [ndsD l, .fn g cs] ⟨.d (.bool (l.any p)), true⟩ := by
 refine Ok.ret Tryz.func63 (by kernel_rfl) (c := _) rfl Tryz.ntmps63 (by simp) Tryz.results63 (by intro _ h; cases h) fun w0 X hp => ?_
 refine LWp.sz hT hW ?_
 simp
 refine LWp.so hT hW (fun | 7 => some <| .plain ⟨.d (I64 (idxI p l)), true⟩ | _ => none) ?_
 simp
 refine ⟨by simpa using IndexNd_ok l p g cs hg, ?_⟩
 refine LWp.ret ?_
 simp [← idxI_nonneg]
theorem isStmt_ok (k : Int) : Ok Tryz.prog 92 [I64 k] ⟨.d (.bool (isStmtK k)), true⟩ := by
 refine Ok.ret Tryz.func92 (by kernel_rfl) (c := _) rfl Tryz.ntmps92 (by simp) Tryz.results92 (by intro _ h; cases h) fun w0 X hp => ?_
 refine LWp.sz hT hW ?_
 simp
 refine LWp.sz hT hW ?_
 simp
 refine LWp.ret ?_
 simp [isStmtK]
theorem isItem_ok (k : Int) : Ok Tryz.prog 91 [I64 k] ⟨.d (.bool (isItemK k)), true⟩ := by
 refine Ok.ret Tryz.func91 (by kernel_rfl) (c := _) rfl Tryz.ntmps91 (by simp) Tryz.results91 (by intro _ h; cases h) fun w0 X hp => ?_
 refine LWp.sz hT hW ?_
 simp
 refine LWp.sz hT hW ?_
 simp
 refine LWp.ret ?_
 simp [isItemK]
theorem isBlock_ok (k : Int) : Ok Tryz.prog 94 [I64 k] ⟨.d (.bool (isBlockK k)), true⟩ := by
 refine Ok.ret Tryz.func94 (by kernel_rfl) (c := _) rfl Tryz.ntmps94 (by simp) Tryz.results94 (by intro _ h; cases h) fun w0 X hp => ?_
 refine LWp.sz hT hW ?_
 simp
 refine LWp.sz hT hW ?_
 simp
 refine LWp.ret ?_
 simp [isBlockK]
theorem isExpr_ok (k : Int) : Ok Tryz.prog 95 [I64 k] ⟨.d (.bool (isExprK k)), true⟩ := by
 refine Ok.ret Tryz.func95 (by kernel_rfl) (c := _) rfl Tryz.ntmps95 (by simp) Tryz.results95 (by intro _ h; cases h) fun w0 X hp => ?_
 refine LWp.sz hT hW ?_
 simp
 refine LWp.sz hT hW ?_
 simp
 refine LWp.ret ?_
 simp [isExprK]
theorem isPlace_ok (k : Int) : Ok Tryz.prog 96 [I64 k] ⟨.d (.bool (isPlaceK k)), true⟩ := by
 refine Ok.ret Tryz.func96 (by kernel_rfl) (c := _) rfl Tryz.ntmps96 (by simp) Tryz.results96 (by intro _ h; cases h) fun w0 X hp => ?_
 refine LWp.sz hT hW ?_
 simp
 refine LWp.sz hT hW ?_
 simp
 refine LWp.ret ?_
 simp [isPlaceK]
theorem isLocal_ok (k : Int) : Ok Tryz.prog 97 [I64 k] ⟨.d (.bool (isLocalK k)), true⟩ := by
 refine Ok.ret Tryz.func97 (by kernel_rfl) (c := _) rfl Tryz.ntmps97 (by simp) Tryz.results97 (by intro _ h; cases h) fun w0 X hp => ?_
 refine LWp.sz hT hW ?_
 simp
 refine LWp.sz hT hW ?_
 simp
 refine LWp.ret ?_
 simp [isLocalK]
theorem all1_ok (x : Nd) (g : FuncId) (f : Int → Bool) (hg : ∀ k, Ok Tryz.prog g [I64 k] ⟨.d (.bool (f k)), true⟩) : Ok Tryz.prog 131 [x.d, .ro [.fn g []]] ⟨.d (.bool (!f x.kind)), true⟩ := by
 refine Ok.ret Tryz.func131 (by kernel_rfl) (c := _) rfl Tryz.ntmps131 (by simp) Tryz.results131 (by intro _ h; cases h) fun w0 X hp => ?_
 refine LWp.sz hT hW ?_
 simp
 refine LWp.so hT hW (fun | 7 => some <| .plain ⟨.d (.bool (f x.kind)), true⟩ | _ => none) ?_
 simp
 refine ⟨hg _, ?_⟩
 refine LWp.ret ?_
 simp
theorem all_ok (x : Nd) (g : FuncId) (f : Int → Bool) (hg : ∀ k, Ok Tryz.prog g [I64 k] ⟨.d (.bool (f k)), true⟩) : Ok Tryz.prog 90 [x.d, .fn g []] ⟨.d (.bool (x.kids.all fun y => f y.kind)), true⟩ := by
 refine Ok.ret Tryz.func90 (by kernel_rfl) (c := _) rfl Tryz.ntmps90 (by simp) Tryz.results90 (by intro _ h; cases h) fun w0 X hp => ?_
 refine LWp.sz hT hW ?_
 simp
 refine LWp.so hT hW (fun | 8 => some <| .plain ⟨.d (.bool (x.kids.any fun y => !f y.kind)), true⟩ | _ => none) ?_
 simp
 refine ⟨by simpa using AnyNd_ok x.kids (fun y => !f y.kind) _ _ fun y _ => all1_ok y g f hg, ?_⟩
 refine LWp.ret ?_
 simp [List.all_eq_not_any_not]
theorem kidsB_len : ∀ {ks : List Nd} {fs : List (Int → Bool)}, ks.length ≠ fs.length → kidsB ks fs = false
 | [], [], h => absurd rfl h
 | [], _ :: _, _ => rfl
 | _ :: _, [], _ => rfl
 | x :: r, f :: l, h => by rw [kidsB, kidsB_len (ks := r) (fs := l) (by simpa using h), Bool.and_false]
theorem kidsB_at : ∀ {ks : List Nd} {fs : List (Int → Bool)}, ks.length = fs.length → (kidsB ks fs = true ↔ ∀ (i : Nat) (h1 : i < ks.length) (h2 : i < fs.length), fs[i] ks[i].kind = true)
 | [], [], _ => ⟨fun _ i h => by simp at h, fun _ => rfl⟩
 | [], _ :: _, h => by simp at h
 | _ :: _, [], h => by simp at h
 | x :: r, f :: l, h => by
  rw [kidsB, Bool.and_eq_true, kidsB_at (ks := r) (fs := l) (by simpa using h)]
  constructor
  ·rintro ⟨h1, h2⟩ i hi hj
   cases i with
   | zero => exact h1
   | succ i => exact h2 i (by simpa using hi) (by simpa using hj)
  ·intro h
   exact ⟨h 0 (by simp) (by simp), fun i hi hj => h (i + 1) (by simpa using hi) (by simpa using hj)⟩
structure FnsB (gs : List FuncId) (fs : List (Int → Bool)) : Prop where
 len : gs.length = fs.length
 ok : ∀ (i : Nat) (h1 : i < gs.length) (h2 : i < fs.length) (k : Int), Ok Tryz.prog gs[i] [I64 k] ⟨.d (.bool (fs[i] k)), true⟩
def fnD (g : FuncId) : DV := .fn g []
theorem kids_ok (x : Nd) (gs : List FuncId) (fs : List (Int → Bool)) (hg : FnsB gs fs) (hgl : gs.length ≤ 100) : Ok Tryz.prog 93 [x.d, .sl (gs.map fnD)] ⟨.d (.bool (kidsB x.kids fs)), true⟩ := by
 refine Ok.ret Tryz.func93 (by kernel_rfl) (c := _) rfl Tryz.ntmps93 (by simp) Tryz.results93 (by intro _ h; cases h) fun w0 X hp => ?_
 have hgf := hg.len
 refine LWp.sz hT hW ?_
 simp
 refine LWp.seq ?_
 refine LWp.sz hT hW ?_
 simp
 refine LWp.iff ?_
 simp
 refine ⟨fun h1 => ?_, fun h1 => ?_⟩
 ·refine LWp.sz hT hW ?_
  simp
  refine LWp.ret ?_
  simp
  exact kidsB_len (by omega)
 ·refine LWp.skip ?_
  simp
  refine LWp.seq ?_
  refine LWp.seq ?_
  have hlen : x.kids.length = fs.length := by omega
  have hkl : x.kids.length ≤ 100 := by omega
  refine LWp.rz hT hW ?_
  simp
  refine LWp.block ?_
  refine LWp.loopW (ι := Nat) (fun i => mkEnv [(1, .d (.sl (gs.map fnD))), (14, .d (ndsD x.kids)), (15, .d (I64 x.kids.length)), (16, .d (I64 i))]) (fun i => mkObs []) (fun i => i ≤ x.kids.length ∧ ∀ (j : Nat) (h1 : j < x.kids.length) (h2 : j < fs.length), j < i → fs[j] x.kids[j].kind = true) (fun i => x.kids.length - i) 0 (Weak.to [1, 14, 15, 16] [] (by decide) (by decide) (by simp [hp]) (by simp) (by simp)) (⟨Nat.zero_le _, fun j _ _ h => absurd h (Nat.not_lt_zero _)⟩) fun i hi4 => ?_
  refine LWp.sz hT hW ?_
  simp
  refine LWp.seq ?_
  refine LWp.iff ?_
  simp
  refine ⟨fun h4 => ?_, fun h4 => ?_⟩
  ·refine LWp.skip ?_
   simp
   refine LWp.seq ?_
   refine LWp.block ?_
   refine LWp.seq ?_
   have hi : i < x.kids.length := by omega
   have hif : i < fs.length := by omega
   have hig : i < gs.length := by omega
   refine LWp.rz hT hW ?_
   simp [hi]
   refine LWp.seq ?_
   have hk := hg.ok i hig hif x.kids[i].kind
   refine LWp.regAny hT hW hMixed (lk [[],[],[0,1],[0,1,2],[],[4],[0,1,2,3,4,5],[0,1,2,3,4,5,6]]) (lk [[],[],[],[],[],[],[],[]]) (lk [[],[],[],[],[],[],[27],[]]) (by kernel_rfl) (fun | 27 => some <| .plain ⟨.d (.bool (fs[i] x.kids[i].kind)), true⟩ | _ => none) (by intro d; first | exact ⟨rfl, fun _ h => h⟩ | (split <;> exact ⟨rfl, fun _ h => h⟩)) ?_
   simp [hig, fnD, evalCallee]
   refine ⟨hk, ?_⟩
   refine LWp.iff ?_
   simp
   refine ⟨fun h6 => ?_, fun h6 => ?_⟩
   ·refine LWp.sz hT hW ?_
    simp
    refine LWp.ret ?_
    simp
    rw [← Bool.not_eq_true, kidsB_at hlen]
    intro h
    have := h i hi hif
    simp [h6] at this
   ·refine LWp.skip ?_
    simp
    refine LWp.rz hT hW ?_
    simp
    refine ⟨by omega, ?_⟩
    refine loopQ.mk (i + 1) (Weak.to [1, 14, 15, 16] [] (by decide) (by decide) (by simp [hp]) (by simp) (by simp)) ?_ ?_
    ·refine ⟨by omega, fun j q1 q2 q3 => ?_⟩
     rcases Nat.lt_or_ge j i with q | q
     ·exact hi4.2 j q1 q2 q
     ·have : j = i := by omega
      subst this
      simpa using h6
    ·omega
  ·refine LWp.exit ?_
   simp
   refine LWp.sz hT hW ?_
   simp
   refine LWp.ret ?_
   simp
   rw [kidsB_at hlen]
   exact fun j q1 q2 => hi4.2 j q1 q2 (by omega)
end
open Go.Proofs
section
attribute [local simp] Res.cond Nd.d_eq nd_t nd_dr nd_td ndsD
theorem FnsB.nil : FnsB [] [] := ⟨rfl, fun i h => by simp at h⟩
theorem FnsB.cons {g : FuncId} {f : Int → Bool} {gs : List FuncId} {fs : List (Int → Bool)} (h : ∀ k, Ok Tryz.prog g [I64 k] ⟨.d (.bool (f k)), true⟩) (hs : FnsB gs fs) : FnsB (g :: gs) (f :: fs) :=
 ⟨by simp [hs.len], fun i h1 h2 k => by
  cases i with
  | zero => exact h k
  | succ i => exact hs.ok i (by simpa using h1) (by simpa using h2) k⟩
theorem shaped_ok (x : Nd) : Ok Tryz.prog 61 [x.d] ⟨.d (.bool (shapedB x)), true⟩ := by
 refine Ok.ret Tryz.func61 (by kernel_rfl) (c := _) rfl Tryz.ntmps61 (by simp) Tryz.results61 (by intro _ h; cases h) fun w0 X hp => ?_
 refine LWp.sz hT hW ?_
 simp
 refine LWp.seq ?_
 refine LWp.sz hT hW ?_
 simp
 refine LWp.block ?_
 refine LWp.sz hT hW ?_
 simp
 refine LWp.iff ?_
 simp
 refine ⟨fun h2 => ?_, fun h2 => ?_⟩
 ·refine LWp.seq ?_
  have hk3 := all_ok x 91 isItemK fun k => isItem_ok k
  refine LWp.ro hT hW (fun | 8 => some <| .plain ⟨.d (.bool (x.kids.all fun y => isItemK y.kind)), true⟩ | _ => none) ?_
  simp
  refine ⟨by simpa using hk3, ?_⟩
  refine LWp.ret ?_
  simp
  unfold shapedB shapedK
  repeat (first | rw [if_pos (by omega)] | rw [if_neg (by omega)])
  try simp [hq]
 ·refine LWp.sz hT hW ?_
  simp
  refine LWp.iff ?_
  simp
  refine ⟨fun h4 => ?_, fun h4 => ?_⟩
  ·refine LWp.seq ?_
   have hk5 := all_ok x 92 isStmtK fun k => isStmt_ok k
   refine LWp.ro hT hW (fun | 12 => some <| .plain ⟨.d (.bool (x.kids.all fun y => isStmtK y.kind)), true⟩ | _ => none) ?_
   simp
   refine ⟨by simpa using hk5, ?_⟩
   refine LWp.ret ?_
   simp
   unfold shapedB shapedK
   repeat (first | rw [if_pos (by omega)] | rw [if_neg (by omega)])
   try simp [hq]
  ·refine LWp.seqCut (ι := BC) (fun ⟨b⟩ => mkEnv [(1, .bx 1 0), (4, .d (I64 x.kind)), (13, .d (.bool b))]) (fun ⟨b⟩ => mkObs [(1, .box false [.d (I64 x.kind), .d (.str x.text), .d (I64 x.n), .d (ndsD x.kids)])]) (fun ⟨b⟩ => b = true ↔ (x.kind = 5 ∨ x.kind = 6)) ?_ fun ⟨b⟩ hc8 => ?_
   ·refine LWp.sz hT hW ?_
    simp
    refine LWp.iff ?_
    simp
    refine ⟨fun h6 => ?_, fun h6 => ?_⟩
    ·refine LWp.skip ?_
     simp
     refine cutQ.mk ⟨decide (x.kind = 5)⟩ (Weak.to [1, 4, 13] [(1, 1)] (by decide) (by decide) (by simp [hp]) (by simp) (by simp)) ?_
     simp [h6]
    ·refine LWp.rz hT hW ?_
     simp
     refine cutQ.mk ⟨decide (x.kind = 6)⟩ (Weak.to [1, 4, 13] [(1, 1)] (by decide) (by decide) (by simp [hp]) (by simp) (by simp)) ?_
     simp only [decide_eq_true_eq]; omega
   ·refine LWp.iff ?_
    simp
    refine ⟨fun h8 => ?_, fun h8 => ?_⟩
    ·have q8 := hc8.1 h8
     refine LWp.seq ?_
     have hk8 := kids_ok x [94] [isBlockK] (FnsB.cons (fun k => isBlock_ok k) FnsB.nil) (by decide)
     refine LWp.ro hT hW (fun | 18 => some <| .plain ⟨.d (.bool (kidsB x.kids [isBlockK])), true⟩ | _ => none) ?_
     simp
     refine ⟨by simpa [fnD] using hk8, ?_⟩
     refine LWp.ret ?_
     simp
     unfold shapedB shapedK
     repeat (first | rw [if_pos (by omega)] | rw [if_neg (by omega)])
     try simp [hq]
    ·have q8 : ¬ (x.kind = 5 ∨ x.kind = 6) := fun q => by simp [hc8.2 q] at h8
     refine LWp.seqCut (ι := BC) (fun ⟨b⟩ => mkEnv [(1, .bx 1 0), (4, .d (I64 x.kind)), (19, .d (.bool b))]) (fun ⟨b⟩ => mkObs [(1, .box false [.d (I64 x.kind), .d (.str x.text), .d (I64 x.n), .d (ndsD x.kids)])]) (fun ⟨b⟩ => b = true ↔ (x.kind = 9 ∨ x.kind = 15 ∨ x.kind = 22 ∨ x.kind = 24)) ?_ fun ⟨b⟩ hc13 => ?_
     ·refine LWp.sz hT hW ?_
      simp
      refine LWp.iff ?_
      simp
      refine ⟨fun h9 => ?_, fun h9 => ?_⟩
      ·refine LWp.skip ?_
       simp
       refine cutQ.mk ⟨decide (x.kind = 9)⟩ (Weak.to [1, 4, 19] [(1, 1)] (by decide) (by decide) (by simp [hp]) (by simp) (by simp)) ?_
       simp [h9]
      ·refine LWp.sz hT hW ?_
       simp
       refine LWp.iff ?_
       simp
       refine ⟨fun h10 => ?_, fun h10 => ?_⟩
       ·refine LWp.skip ?_
        simp
        refine cutQ.mk ⟨decide (x.kind = 15)⟩ (Weak.to [1, 4, 19] [(1, 1)] (by decide) (by decide) (by simp [hp]) (by simp) (by simp)) ?_
        simp [h10]
       ·refine LWp.sz hT hW ?_
        simp
        refine LWp.iff ?_
        simp
        refine ⟨fun h11 => ?_, fun h11 => ?_⟩
        ·refine LWp.skip ?_
         simp
         refine cutQ.mk ⟨decide (x.kind = 22)⟩ (Weak.to [1, 4, 19] [(1, 1)] (by decide) (by decide) (by simp [hp]) (by simp) (by simp)) ?_
         simp [h11]
        ·refine LWp.rz hT hW ?_
         simp
         refine cutQ.mk ⟨decide (x.kind = 24)⟩ (Weak.to [1, 4, 19] [(1, 1)] (by decide) (by decide) (by simp [hp]) (by simp) (by simp)) ?_
         simp only [decide_eq_true_eq]; omega
     ·refine LWp.iff ?_
      simp
      refine ⟨fun h13 => ?_, fun h13 => ?_⟩
      ·have q13 := hc13.1 h13
       refine LWp.seq ?_
       have hk13 := kids_ok x [95] [isExprK] (FnsB.cons (fun k => isExpr_ok k) FnsB.nil) (by decide)
       refine LWp.ro hT hW (fun | 26 => some <| .plain ⟨.d (.bool (kidsB x.kids [isExprK])), true⟩ | _ => none) ?_
       simp
       refine ⟨by simpa [fnD] using hk13, ?_⟩
       refine LWp.ret ?_
       simp
       unfold shapedB shapedK
       repeat (first | rw [if_pos (by omega)] | rw [if_neg (by omega)])
       try simp [hq]
      ·have q13 : ¬ (x.kind = 9 ∨ x.kind = 15 ∨ x.kind = 22 ∨ x.kind = 24) := fun q => by simp [hc13.2 q] at h13
       refine LWp.sz hT hW ?_
       simp
       refine LWp.iff ?_
       simp
       refine ⟨fun h14 => ?_, fun h14 => ?_⟩
       ·refine LWp.seq ?_
        have hk15 := kids_ok x [96, 95] [isPlaceK, isExprK] (FnsB.cons (fun k => isPlace_ok k) (FnsB.cons (fun k => isExpr_ok k) FnsB.nil)) (by decide)
        refine LWp.ro hT hW (fun | 31 => some <| .plain ⟨.d (.bool (kidsB x.kids [isPlaceK, isExprK])), true⟩ | _ => none) ?_
        simp
        refine ⟨⟨by decide, by simpa [fnD] using hk15⟩, ?_⟩
        refine LWp.ret ?_
        simp
        unfold shapedB shapedK
        repeat (first | rw [if_pos (by omega)] | rw [if_neg (by omega)])
        try simp [hq]
       ·refine LWp.sz hT hW ?_
        simp
        refine LWp.iff ?_
        simp
        refine ⟨fun h16 => ?_, fun h16 => ?_⟩
        ·refine LWp.seq ?_
         have hk17 := kids_ok x [95, 94] [isExprK, isBlockK] (FnsB.cons (fun k => isExpr_ok k) (FnsB.cons (fun k => isBlock_ok k) FnsB.nil)) (by decide)
         have hl17 := kids_ok x [95, 94, 94] [isExprK, isBlockK, isBlockK] (FnsB.cons (fun k => isExpr_ok k) (FnsB.cons (fun k => isBlock_ok k) (FnsB.cons (fun k => isBlock_ok k) FnsB.nil))) (by decide)
         cases hq : kidsB x.kids [isExprK, isBlockK] <;> rw [hq] at hk17
         ·refine LWp.ro hT hW (fun | 36 => some <| .plain ⟨.d (.bool (decide (0 = 1))), true⟩ | 40 => some <| .plain ⟨.d (.bool (kidsB x.kids [isExprK, isBlockK, isBlockK])), true⟩ | _ => none) ?_
          simp
          refine ⟨⟨⟨⟨by decide, by simpa [fnD] using hk17⟩, by decide⟩, by simpa [fnD] using hl17⟩, ?_⟩
          refine LWp.ret ?_
          simp
          unfold shapedB shapedK
          repeat (first | rw [if_pos (by omega)] | rw [if_neg (by omega)])
          try simp [hq]
         ·refine LWp.ro hT hW (fun | 36 => some <| .plain ⟨.d (.bool (decide (1 = 1))), true⟩ | 40 => some <| .plain ⟨.d (.bool (kidsB x.kids [isExprK, isBlockK, isBlockK])), true⟩ | _ => none) ?_
          simp
          refine ⟨⟨by decide, by simpa [fnD] using hk17⟩, ?_⟩
          refine LWp.ret ?_
          simp
          unfold shapedB shapedK
          repeat (first | rw [if_pos (by omega)] | rw [if_neg (by omega)])
          try simp [hq]
        ·refine LWp.sz hT hW ?_
         simp
         refine LWp.iff ?_
         simp
         refine ⟨fun h18 => ?_, fun h18 => ?_⟩
         ·refine LWp.seq ?_
          have hk19 := kids_ok x [95, 94] [isExprK, isBlockK] (FnsB.cons (fun k => isExpr_ok k) (FnsB.cons (fun k => isBlock_ok k) FnsB.nil)) (by decide)
          refine LWp.ro hT hW (fun | 46 => some <| .plain ⟨.d (.bool (kidsB x.kids [isExprK, isBlockK])), true⟩ | _ => none) ?_
          simp
          refine ⟨⟨by decide, by simpa [fnD] using hk19⟩, ?_⟩
          refine LWp.ret ?_
          simp
          unfold shapedB shapedK
          repeat (first | rw [if_pos (by omega)] | rw [if_neg (by omega)])
          try simp [hq]
         ·refine LWp.seqCut (ι := BC) (fun ⟨b⟩ => mkEnv [(1, .bx 1 0), (4, .d (I64 x.kind)), (47, .d (.bool b))]) (fun ⟨b⟩ => mkObs [(1, .box false [.d (I64 x.kind), .d (.str x.text), .d (I64 x.n), .d (ndsD x.kids)])]) (fun ⟨b⟩ => b = true ↔ (x.kind = 16 ∨ x.kind = 23)) ?_ fun ⟨b⟩ hc22 => ?_
          ·refine LWp.sz hT hW ?_
           simp
           refine LWp.iff ?_
           simp
           refine ⟨fun h20 => ?_, fun h20 => ?_⟩
           ·refine LWp.skip ?_
            simp
            refine cutQ.mk ⟨decide (x.kind = 16)⟩ (Weak.to [1, 4, 47] [(1, 1)] (by decide) (by decide) (by simp [hp]) (by simp) (by simp)) ?_
            simp [h20]
           ·refine LWp.rz hT hW ?_
            simp
            refine cutQ.mk ⟨decide (x.kind = 23)⟩ (Weak.to [1, 4, 47] [(1, 1)] (by decide) (by decide) (by simp [hp]) (by simp) (by simp)) ?_
            simp only [decide_eq_true_eq]; omega
          ·refine LWp.iff ?_
           simp
           refine ⟨fun h22 => ?_, fun h22 => ?_⟩
           ·have q22 := hc22.1 h22
            refine LWp.seq ?_
            have hk22 := kids_ok x [97] [isLocalK] (FnsB.cons (fun k => isLocal_ok k) FnsB.nil) (by decide)
            refine LWp.ro hT hW (fun | 52 => some <| .plain ⟨.d (.bool (kidsB x.kids [isLocalK])), true⟩ | _ => none) ?_
            simp
            refine ⟨by simpa [fnD] using hk22, ?_⟩
            refine LWp.ret ?_
            simp
            unfold shapedB shapedK
            repeat (first | rw [if_pos (by omega)] | rw [if_neg (by omega)])
            try simp [hq]
           ·have q22 : ¬ (x.kind = 16 ∨ x.kind = 23) := fun q => by simp [hc22.2 q] at h22
            refine LWp.seqCut (ι := BC) (fun ⟨b⟩ => mkEnv [(1, .bx 1 0), (4, .d (I64 x.kind)), (53, .d (.bool b))]) (fun ⟨b⟩ => mkObs [(1, .box false [.d (I64 x.kind), .d (.str x.text), .d (I64 x.n), .d (ndsD x.kids)])]) (fun ⟨b⟩ => b = true ↔ (x.kind = 26 ∨ x.kind = 27 ∨ x.kind = 28 ∨ x.kind = 29 ∨ x.kind = 30 ∨ x.kind = 31)) ?_ fun ⟨b⟩ hc29 => ?_
            ·refine LWp.sz hT hW ?_
             simp
             refine LWp.iff ?_
             simp
             refine ⟨fun h23 => ?_, fun h23 => ?_⟩
             ·refine LWp.skip ?_
              simp
              refine cutQ.mk ⟨decide (x.kind = 26)⟩ (Weak.to [1, 4, 53] [(1, 1)] (by decide) (by decide) (by simp [hp]) (by simp) (by simp)) ?_
              simp [h23]
             ·refine LWp.sz hT hW ?_
              simp
              refine LWp.iff ?_
              simp
              refine ⟨fun h24 => ?_, fun h24 => ?_⟩
              ·refine LWp.skip ?_
               simp
               refine cutQ.mk ⟨decide (x.kind = 27)⟩ (Weak.to [1, 4, 53] [(1, 1)] (by decide) (by decide) (by simp [hp]) (by simp) (by simp)) ?_
               simp [h24]
              ·refine LWp.sz hT hW ?_
               simp
               refine LWp.iff ?_
               simp
               refine ⟨fun h25 => ?_, fun h25 => ?_⟩
               ·refine LWp.skip ?_
                simp
                refine cutQ.mk ⟨decide (x.kind = 28)⟩ (Weak.to [1, 4, 53] [(1, 1)] (by decide) (by decide) (by simp [hp]) (by simp) (by simp)) ?_
                simp [h25]
               ·refine LWp.sz hT hW ?_
                simp
                refine LWp.iff ?_
                simp
                refine ⟨fun h26 => ?_, fun h26 => ?_⟩
                ·refine LWp.skip ?_
                 simp
                 refine cutQ.mk ⟨decide (x.kind = 29)⟩ (Weak.to [1, 4, 53] [(1, 1)] (by decide) (by decide) (by simp [hp]) (by simp) (by simp)) ?_
                 simp [h26]
                ·refine LWp.sz hT hW ?_
                 simp
                 refine LWp.iff ?_
                 simp
                 refine ⟨fun h27 => ?_, fun h27 => ?_⟩
                 ·refine LWp.skip ?_
                  simp
                  refine cutQ.mk ⟨decide (x.kind = 30)⟩ (Weak.to [1, 4, 53] [(1, 1)] (by decide) (by decide) (by simp [hp]) (by simp) (by simp)) ?_
                  simp [h27]
                 ·refine LWp.rz hT hW ?_
                  simp
                  refine cutQ.mk ⟨decide (x.kind = 31)⟩ (Weak.to [1, 4, 53] [(1, 1)] (by decide) (by decide) (by simp [hp]) (by simp) (by simp)) ?_
                  simp only [decide_eq_true_eq]; omega
            ·refine LWp.iff ?_
             simp
             refine ⟨fun h29 => ?_, fun h29 => ?_⟩
             ·have q29 := hc29.1 h29
              refine LWp.seq ?_
              have hk29 := kids_ok x [95, 95] [isExprK, isExprK] (FnsB.cons (fun k => isExpr_ok k) (FnsB.cons (fun k => isExpr_ok k) FnsB.nil)) (by decide)
              refine LWp.ro hT hW (fun | 62 => some <| .plain ⟨.d (.bool (kidsB x.kids [isExprK, isExprK])), true⟩ | _ => none) ?_
              simp
              refine ⟨⟨by decide, by simpa [fnD] using hk29⟩, ?_⟩
              refine LWp.ret ?_
              simp
              unfold shapedB shapedK
              repeat (first | rw [if_pos (by omega)] | rw [if_neg (by omega)])
              try simp [hq]
             ·have q29 : ¬ (x.kind = 26 ∨ x.kind = 27 ∨ x.kind = 28 ∨ x.kind = 29 ∨ x.kind = 30 ∨ x.kind = 31) := fun q => by simp [hc29.2 q] at h29
              refine LWp.skip ?_
              simp
              refine LWp.seq ?_
              have hk30 := kids_ok x [] [] FnsB.nil (by decide)
              refine LWp.ro hT hW (fun | 64 => some <| .plain ⟨.d (.bool (kidsB x.kids [])), true⟩ | _ => none) ?_
              simp
              refine ⟨by simpa [fnD] using hk30, ?_⟩
              refine LWp.ret ?_
              simp
              unfold shapedB shapedK
              repeat (first | rw [if_pos (by omega)] | rw [if_neg (by omega)])
              try simp [hq]
end
open Go.Proofs
section
attribute [local simp] Res.cond Nd.d_eq nd_t nd_dr nd_td ndsD
theorem glob2_len : glob2.length = 12 := rfl
theorem ops_take {k : Int} (h0 : 26 ≤ k) (h1 : k ≤ 31) : List.take 2 (List.drop ((k - 26).toNat * 2) glob2) = [.str (signAt k), I64 (levelAt k)] := by
 have : k = 26 ∨ k = 27 ∨ k = 28 ∨ k = 29 ∨ k = 30 ∨ k = 31 := by omega
 rcases this with rfl | rfl | rfl | rfl | rfl | rfl <;> rfl
theorem ops_level {k : Int} (h0 : 26 ≤ k) (h1 : k ≤ 31) : glob2[(k - 26).toNat * 2 + 1]?.getD default = I64 (levelAt k) := by
 have : k = 26 ∨ k = 27 ∨ k = 28 ∨ k = 29 ∨ k = 30 ∨ k = 31 := by omega
 rcases this with rfl | rfl | rfl | rfl | rfl | rfl <;> rfl
theorem level_ok (x : Nd) : Ok Tryz.prog 177 [x.d] ⟨.d (I64 (lvlN x.kind)), true⟩ := by
 refine Ok.ret Tryz.func177 (by kernel_rfl) (c := _) rfl Tryz.ntmps177 (by simp) Tryz.results177 (by intro _ h; cases h) fun w0 X hp => ?_
 refine LWp.sz hT hW ?_
 simp
 refine LWp.seq ?_
 refine LWp.sz hT hW ?_
 simp
 refine LWp.iff ?_
 simp
 refine ⟨fun g1 g2 => ?_, fun g => ?_⟩
 ·refine LWp.seq ?_
  have q1 := ops_level g1 g2
  have q2 := glob2_len
  refine LWp.rz hT hW ?_
  simp [q1]
  refine ⟨⟨⟨by omega, by omega⟩, by omega⟩, ?_⟩
  refine LWp.ret ?_
  simp [lvlN, g1, g2]
 ·refine LWp.skip ?_
  simp
  refine LWp.sz hT hW ?_
  simp
  refine LWp.ret ?_
  simp
  rw [lvlN, if_neg (by omega)]
theorem dec_len (n : Nat) : (decS n).length ≤ 3 := by unfold decS; split <;> (try split) <;> simp
theorem itoa_len (n : Int) : (itoaS n).length ≤ 4 := by
 have h1 := dec_len n.natAbs
 have h2 := dec_len n.toNat
 unfold itoaS; split
 ·simp only [List.length_cons]; omega
 ·omega
theorem paren_len (c : Bool) (t : Str) : (paren c t).length ≤ t.length + 2 := by cases c <;> simp [paren]
theorem sign_len (k : Int) (h : 26 ≤ k ∧ k ≤ 31) : (signAt k).length ≤ 2 := by
 have : k = 26 ∨ k = 27 ∨ k = 28 ∨ k = 29 ∨ k = 30 ∨ k = 31 := by omega
 rcases this with rfl | rfl | rfl | rfl | rfl | rfl <;> decide
theorem exprT_len (x : Nd) : rightN x = true → isExprK x.kind = true → (exprT x).length ≤ 8 * weighN x := by
 refine Nd.ind (p := fun x => rightN x = true → isExprK x.kind = true → (exprT x).length ≤ 8 * weighN x) (fun k t n ks ih => ?_) x
 intro hr he
 have hw : weighN (.mk k t n ks) = weighL ks + t.length + 1 := by rw [weighN]
 rcases right_expr hr he with ⟨_, _, _, h4⟩ | ⟨h1, _⟩ | h1 | ⟨h1, _⟩ | ⟨h1, h2⟩ | ⟨k', a, b, h1, h2, h3, h4, h5, h6, h7⟩
 ·rw [h4]
  have := itoa_len (Nd.mk k t n ks).n
  simp only [exprT, if_true, weighN]; omega
 ·rw [h1]; simp [exprT, weighN]; omega
 ·rw [h1]; simp [exprT, weighN, sKind]; omega
 ·rw [h1]; simp [exprT, weighN]; omega
 ·rw [h1]; simp [exprT, weighN]; omega
 ·injection h3 with i1 i2 i3 i4
  subst i1; subst i2; subst i3; subst i4
  have ha := ih a (by simp) h4 h5
  have hb := ih b (by simp) h6 h7
  have e1 := paren_len (decide (lvlN a.kind < (if levelAt k = 1 then 2 else levelAt k))) (exprT a)
  have e2 := paren_len (decide (lvlN b.kind < levelAt k + 1)) (exprT b)
  have e3 := sign_len k ⟨h1, h2⟩
  rw [exprT_bin h1 h2, hw]
  simp only [weighL, List.length_append, List.length_cons, List.length_nil]
  omega
end
end Go.Eng
namespace Go.Proofs
open Go.Shelf
def Tryz.itoaLay_ren : Go.Shelf.Ren := ⟨fun | 171 => 66 | 243 => 102 | 246 => 134 | 283 => 156 | 284 => 157 | 285 => 158 | 286 => 159 | 129 => 130 | 317 => 178 | 318 => 179 | 319 => 180 | 320 => 181 | 337 => 193 | 338 => 194 | n => n, fun | 3 => 3 | 9 => 9 | 2 => 2 | 4 => 4 | 171 => 143 | 0 => 0 | 53 => 125 | 37 => 67 | 5 => 5 | 173 => 145 | 212 => 158 | 51 => 123 | 20 => 20 | 213 => 159 | 46 => 94 | 232 => 177 | 233 => 178 | n => n, fun | 17 => 4 | 18 => 7 | 19 => 8 | n => n⟩
theorem Tryz.itoaLay : Go.Proofs.LaysM.n171 Tryz.prog Tryz.itoaLay_ren := {
  mixed := by kernel_rfl,
  f129 := Tryz.func130.trans (congrArg some (by kernel_rfl)),
  f171 := Tryz.func66.trans (congrArg some (by kernel_rfl)),
  f243 := Tryz.func102.trans (congrArg some (by kernel_rfl)),
  f246 := Tryz.func134.trans (congrArg some (by kernel_rfl)),
  f283 := Tryz.func156.trans (congrArg some (by kernel_rfl)),
  f284 := Tryz.func157.trans (congrArg some (by kernel_rfl)),
  f285 := Tryz.func158.trans (congrArg some (by kernel_rfl)),
  f286 := Tryz.func159.trans (congrArg some (by kernel_rfl)),
  f317 := Tryz.func178.trans (congrArg some (by kernel_rfl)),
  f318 := Tryz.func179.trans (congrArg some (by kernel_rfl)),
  f319 := Tryz.func180.trans (congrArg some (by kernel_rfl)),
  f320 := Tryz.func181.trans (congrArg some (by kernel_rfl)),
  f337 := Tryz.func193.trans (congrArg some (by kernel_rfl)),
  f338 := Tryz.func194.trans (congrArg some (by kernel_rfl)),
  t0 := Tryz.underlying0,
  a0 := Tryz.isAgg0,
  z0 := Tryz.sizeOf0,
  v0 := Tryz.zeroValue0,
  t2 := Tryz.underlying2,
  a2 := Tryz.isAgg2,
  z2 := Tryz.sizeOf2,
  v2 := Tryz.zeroValue2,
  t3 := Tryz.underlying3,
  a3 := Tryz.isAgg3,
  z3 := Tryz.sizeOf3,
  v3 := Tryz.zeroValue3,
  t4 := Tryz.underlying4,
  a4 := Tryz.isAgg4,
  z4 := Tryz.sizeOf4,
  v4 := Tryz.zeroValue4,
  t5 := Tryz.underlying5,
  a5 := Tryz.isAgg5,
  z5 := Tryz.sizeOf5,
  v5 := Tryz.zeroValue5,
  t9 := Tryz.underlying9,
  a9 := Tryz.isAgg9,
  z9 := Tryz.sizeOf9,
  v9 := Tryz.zeroValue9,
  t20 := Tryz.underlying20,
  a20 := Tryz.isAgg20,
  z20 := Tryz.sizeOf20,
  v20 := Tryz.zeroValue20,
  t37 := Tryz.underlying67,
  a37 := Tryz.isAgg67,
  z37 := Tryz.sizeOf67,
  v37 := Tryz.zeroValue67,
  t46 := Tryz.underlying94,
  a46 := Tryz.isAgg94,
  z46 := Tryz.sizeOf94,
  v46 := Tryz.zeroValue94,
  t51 := Tryz.underlying123,
  a51 := Tryz.isAgg123,
  z51 := Tryz.sizeOf123,
  v51 := Tryz.zeroValue123,
  t53 := Tryz.underlying125,
  a53 := Tryz.isAgg125,
  z53 := Tryz.sizeOf125,
  v53 := Tryz.zeroValue125,
  t171 := Tryz.underlying143,
  a171 := Tryz.isAgg143,
  z171 := Tryz.sizeOf143,
  v171 := Tryz.zeroValue143,
  t173 := Tryz.underlying145,
  a173 := Tryz.isAgg145,
  z173 := Tryz.sizeOf145,
  v173 := Tryz.zeroValue145,
  t212 := Tryz.underlying158,
  a212 := Tryz.isAgg158,
  z212 := Tryz.sizeOf158,
  v212 := Tryz.zeroValue158,
  t213 := Tryz.underlying159,
  a213 := Tryz.isAgg159,
  z213 := Tryz.sizeOf159,
  t232 := Tryz.underlying177,
  a232 := Tryz.isAgg177,
  z232 := Tryz.sizeOf177,
  v232 := Tryz.zeroValue177,
  t233 := Tryz.underlying178,
  a233 := Tryz.isAgg178,
  z233 := Tryz.sizeOf178,
  v233 := Tryz.zeroValue178,
  g17 := by kernel_rfl,
  g18 := by kernel_rfl,
  g19 := by kernel_rfl,
  i0 := by kernel_rfl,
  i2 := by kernel_rfl,
  i3 := by kernel_rfl,
  i4 := by kernel_rfl,
  i5 := by kernel_rfl,
  i9 := by kernel_rfl,
  i20 := by kernel_rfl,
  i37 := by kernel_rfl,
  i46 := by kernel_rfl,
  i51 := by kernel_rfl,
  i53 := by kernel_rfl,
  i171 := by kernel_rfl,
  i173 := by kernel_rfl,
  i212 := by kernel_rfl,
  i232 := by kernel_rfl,
  i233 := by kernel_rfl,
  m17 := by kernel_rfl,
  m18 := by kernel_rfl,
  m19 := by kernel_rfl }
end Go.Proofs
namespace Go.Eng
open Go.Proofs
theorem dec_lib {n : Nat} (h : n < 1000) : Lib.decDigits n = decS n := by
 unfold decS
 by_cases h1 : n < 10
 ·rw [if_pos h1, Lib.decDigits, dif_pos h1]
 ·rw [if_neg h1, Lib.decDigits, dif_neg h1]
  by_cases h2 : n < 100
  ·rw [if_pos h2, Lib.decDigits, dif_pos (by omega)]; rfl
  ·rw [if_neg h2, Lib.decDigits, dif_neg (by omega), Lib.decDigits, dif_pos (by omega), Nat.div_div_eq_div_mul]; rfl
theorem itoa_lib {n : Int} (h0 : -999 ≤ n) (h1 : n ≤ 999) : Lib.itoa n = itoaS n := by
 unfold Lib.itoa itoaS
 split
 ·rw [dec_lib (by omega)]
 ·rw [dec_lib (by omega)]
theorem glob4_pow : glob4 = Lib.pow10Tab.map fun z => DV.int .u64 z := by kernel_rfl
theorem pow_tab {w : World} {X : Nat → Prop} (h : Glob w X) {name : String} (hg : Tryz.prog.globalNamed name = some 4) : Lib.TabIs Tryz.prog w name .u64 Lib.pow10Tab := by
 obtain ⟨h1, arr, t, fz, h2, h3⟩ := h 4 glob4 rfl
 unfold Lib.TabIs World.var?
 rw [hg]
 simp only [Option.bind_some, h2, Option.some.injEq]
 rw [glob4_pow] at h1 h3
 cases h1 with
 | ro _ _ _ us hb hul hu1 hlt hcell hp =>
  apply Array.ext_getElem?
  intro i
  by_cases hi : i < arr.size
  ·have hz : i < Lib.pow10Tab.length := by rw [h3, List.length_map] at hi; exact hi
   have hu : i < us.length := by rw [hul, List.length_map]; exact hz
   have hc := hcell i us[i] (List.getElem?_eq_getElem hu)
   have hq := hp i (.int .u64 Lib.pow10Tab[i]) us[i] (by simp [hz]) (List.getElem?_eq_getElem hu)
   generalize us[i] = u at hc hq
   cases hq
   rw [Nat.zero_add] at hc
   unfold World.cell? at hc
   simp [h2] at hc
   rw [hc]
   simp [hz]
  ·rw [Array.getElem?_eq_none (by omega)]
   rw [h3, List.length_map] at hi
   rw [List.getElem?_toArray, List.getElem?_eq_none (by simpa using hi)]
theorem Itoa_ok (n : Int) (h0 : -999 ≤ n) (h1 : n ≤ 999) : Ok Tryz.prog 66 [I64 n] ⟨.d (.str (itoaS n)), true⟩ := by
 refine ⟨⟨_, Tryz.func66, by kernel_rfl, rfl⟩, fun w X vs hX hr => ?_⟩
 match vs, hr.1 with
 | [v], _ =>
  have h := hr.2 0 _ _ rfl rfl
  cases h
  refine (Go.Proofs.Any.strconv_Itoa Tryz.itoaLay n (by omega) (by omega) w (pow_tab hX.2 (by kernel_rfl))).mono ?_
  rintro e w' ⟨rfl, k, os, rfl⟩
  refine ⟨_, rfl, ⟨rfl, rfl, rfl, ?_, fun j hj => Go.Sort.heap_grow_old (w.drewN k) os hj, Nat.le_add_right _ _⟩, none, ?_⟩
  ·simp [Sort.grow]
  ·rw [itoa_lib h0 h1]; exact .str _
end Go.Eng
namespace Go.Eng
open Go.Proofs
attribute [local simp] runL stepL evalG evalOp opLV constLV putEnv dstOk upd upds Res.plain Res.cond Res.fail evalBin evalUn seqQ blockQ argsEnv lookL lookH RetIs memless freshL evalPick evalMin bval bok evalLen evalIn strip whenC guardOps guardC slotsOf
 runM foldS stepI stepM maskE wrIn lk renO lookN evalCall evalCallee optAll resLV resObj retLV retObj retsLV retsObj evalLoad evalIndexAddr evalField solid cellsD_agg cellsD_int cellsD_bool cellsD_str cellsD_sl cellsD_ro cellsD_fn cellsL_agg cellsL_dagg cellsL_int cellsL_bool cellsL_str cellsL_sl cellsL_fn cellsL_ow cellsL_bx cellsL_lfn cellsL_nl takeL takeD mkAgg allD eqD eqDs kindsAre kindIs LObj.live TK.isNone TK.agg TK.isBool TK.isStr TK.isStruct Op.operands Call.operands
 evalBuildSlice evalAppend elemsOf evalStore evalBuild fillL lookupF putL evalSlice bound evalConv elemsS freezes frozen loadR
 mkEnv_at mkObs_at close_d close_agg close_ow close_bx close_fn close_nl touch_d touch_agg touch_ow touch_bx touch_fn touch_nl ren_d ren_agg ren_bx ren_rp ren_ow ren_fn ren_nl ren_junk retQ_ret retQ2_ret condQ_bool Nm.d Df.d Ed.d nmsD dfsD strsD edsD retC_ret nm_eq df_eq take_map_len take_map_app
 nm_t nm_d nm_td df_t df_d df_td str_t str_d str_td ed_t ed_d ed_td
 evalAppendIn evalBuildSliceC evalCopyC shortL evalApart evalAppendC evalAppendZ evalAppendG evalCapC isOc TK.isInt close_oc touch_oc ren_oc cellsL_oc evalCut evalClear evalCopy evalMake evalWrap evalCap evalNil isNilC lenL isInp gorc gorc2
 mapOf findD keyEq keyOk evalMakeMap evalRange zeroD zeroDV argsG shutG outN lenv retG0_ret retG0_normal retG1_ret retGR_ret renO close_mp touch_mp ren_mp optAll_d optAll_d' touch_ds cellsL_mp cellsD_mp cellsL_dmp
 evalMapSet evalPtr TK.isPtr evalToArr firstL retN_ret retsQ rvarL close_bm touch_bm ren_bm cellsD_bm cellsL_bm cellsL_lbm
attribute [local simp] cutQ_normal cutQ_ret cutQ_exit
section
attribute [local simp] Res.cond Nd.d_eq nd_t nd_dr nd_td ndsD
theorem exprT_32 {x : Nd} (h : x.kind = 32) : exprT x = itoaS x.n := by cases x; simp only [Nd.kind_mk] at h; subst h; unfold exprT; simp
theorem exprT_33 {x : Nd} (h : x.kind = 33) : exprT x = 36 :: x.text := by cases x; simp only [Nd.kind_mk] at h; subst h; unfold exprT; simp
theorem exprT_36 {x : Nd} (h : x.kind = 36) : exprT x = sKind := by cases x; simp only [Nd.kind_mk] at h; subst h; unfold exprT; simp
theorem exprT_34 {x : Nd} (h : x.kind = 34 ∨ x.kind = 35) : exprT x = x.text := by cases x; simp only [Nd.kind_mk] at h; rcases h with rfl | rfl <;> (unfold exprT; simp)
theorem expr_facts {x : Nd} (hr : rightN x = true) (he : isExprK x.kind = true) : (26 ≤ x.kind ∧ x.kind ≤ 36) ∧ (x.kind = 32 → exprT x = itoaS x.n ∧ 0 ≤ x.n ∧ x.n ≤ 999) ∧ (x.kind = 33 → exprT x = 36 :: x.text) ∧ (x.kind = 36 → exprT x = sKind) ∧
  (x.kind = 34 ∨ x.kind = 35 → exprT x = x.text) ∧ (x.kind ≤ 31 → ∃ a b, x.kids = [a, b] ∧ rightN a = true ∧ isExprK a.kind = true ∧ rightN b = true ∧ isExprK b.kind = true ∧
   exprT x = paren (decide (lvlN a.kind < (if levelAt x.kind = 1 then 2 else levelAt x.kind))) (exprT a) ++ 32 :: (signAt x.kind ++ 32 :: paren (decide (lvlN b.kind < levelAt x.kind + 1)) (exprT b))) := by
 refine ⟨isExprK_iff.1 he, fun h => ⟨exprT_32 h, ?_⟩, exprT_33, exprT_36, exprT_34, fun h => ?_⟩
 ·obtain ⟨k, t, n, ks⟩ := x
  have h : k = 32 := h
  subst h
  obtain ⟨_, _, _, w1, w2, _⟩ := right_mk.1 hr
  exact ⟨w1, w2⟩
 ·rcases right_expr hr he with ⟨h1, _⟩ | ⟨h1, _⟩ | h1 | ⟨h1, _⟩ | ⟨h1, _⟩ | ⟨k', a, b, h1, h2, h3, h4, h5, h6, h7⟩
  ·omega
  ·rw [h1] at h; exact absurd h (by simp)
  ·rw [h1] at h; exact absurd h (by simp)
  ·rw [h1] at h; exact absurd h (by simp)
  ·rw [h1] at h; exact absurd h (by simp)
  ·rw [h3]; exact ⟨a, b, rfl, h4, h5, h6, h7, exprT_bin h1 h2⟩
theorem inside_ok (x : Nd) (least : Int) (hx : Ok Tryz.prog 133 [x.d] ⟨.d (.str (exprT x)), true⟩) (hl : (exprT x).length ≤ 10000000000) : Ok Tryz.prog 155 [x.d, I64 least] ⟨.d (.str (paren (decide (lvlN x.kind < least)) (exprT x))), true⟩ := by
 refine Ok.ret Tryz.func155 (by kernel_rfl) (c := _) rfl Tryz.ntmps155 (by simp) Tryz.results155 (by intro _ h; cases h) fun w0 X hp => ?_
 refine LWp.sz hT hW ?_
 simp
 refine LWp.seq ?_
 refine LWp.seq ?_
 have hv := level_ok x
 refine LWp.ro hT hW (fun | 6 => some <| .plain ⟨.d (I64 (lvlN x.kind)), true⟩ | _ => none) ?_
 simp
 refine ⟨by simpa using hv, ?_⟩
 refine LWp.iff ?_
 simp
 refine ⟨fun h1 => ?_, fun h1 => ?_⟩
 ·refine LWp.so hT hW (fun | 10 => some <| .plain ⟨.d (.str (exprT x)), true⟩ | _ => none) ?_
  simp
  refine ⟨⟨⟨by simpa using hx, by omega⟩, by omega⟩, ?_⟩
  refine LWp.ret ?_
  simp [paren, h1]
 ·refine LWp.skip ?_
  simp
  refine LWp.so hT hW (fun | 14 => some <| .plain ⟨.d (.str (exprT x)), true⟩ | _ => none) ?_
  simp
  refine ⟨by simpa using hx, ?_⟩
  refine LWp.ret ?_
  simp [paren]
  intro h
  omega
theorem expr_step (x : Nd) (hr : rightN x = true) (he : isExprK x.kind = true) (hw : weighN x ≤ 1000000000) (ih : ∀ y ∈ x.kids, rightN y = true → isExprK y.kind = true → weighN y ≤ 1000000000 → Ok Tryz.prog 133 [y.d] ⟨.d (.str (exprT y)), true⟩) : Ok Tryz.prog 133 [x.d] ⟨.d (.str (exprT x)), true⟩ := by
 refine Ok.ret Tryz.func133 (by kernel_rfl) (c := _) rfl Tryz.ntmps133 (by simp) Tryz.results133 (by intro _ h; cases h) fun w0 X hp => ?_
 obtain ⟨f0, f32, f33, f36, f34, f26⟩ := expr_facts hr he
 have hwx := weighN_eq x
 refine LWp.sz hT hW ?_
 simp
 refine LWp.seq ?_
 refine LWp.sz hT hW ?_
 simp
 refine LWp.block ?_
 refine LWp.sz hT hW ?_
 simp
 refine LWp.iff ?_
 simp
 refine ⟨fun h2 => ?_, fun h2 => ?_⟩
 ·refine LWp.seq ?_
  obtain ⟨q1, q2, q3⟩ := f32 h2
  have hi := Itoa_ok x.n (by omega) q3
  refine LWp.ro hT hW (fun | 11 => some <| .plain ⟨.d (.str (itoaS x.n)), true⟩ | _ => none) ?_
  simp
  refine ⟨hi, ?_⟩
  refine LWp.ret ?_
  simp [q1]
 ·refine LWp.sz hT hW ?_
  simp
  refine LWp.iff ?_
  simp
  refine ⟨fun h4 => ?_, fun h4 => ?_⟩
  ·refine LWp.sz hT hW ?_
   simp
   refine ⟨by omega, ?_⟩
   refine LWp.ret ?_
   simp [f33 h4]
  ·refine LWp.sz hT hW ?_
   simp
   refine LWp.iff ?_
   simp
   refine ⟨fun h6 => ?_, fun h6 => ?_⟩
   ·refine LWp.sz hT hW ?_
    simp
    refine LWp.ret ?_
    simp [f36 h6, sKind]
   ·refine LWp.seqCut (ι := BC) (fun ⟨b⟩ => mkEnv [(1, .bx 1 0), (19, .d (.bool b))]) (fun ⟨b⟩ => mkObs [(1, .box false [.d (I64 x.kind), .d (.str x.text), .d (I64 x.n), .d (ndsD x.kids)])]) (fun ⟨b⟩ => b = true ↔ (x.kind = 34 ∨ x.kind = 35)) ?_ fun ⟨b⟩ hc10 => ?_
    ·refine LWp.sz hT hW ?_
     simp
     refine LWp.iff ?_
     simp
     refine ⟨fun h8 => ?_, fun h8 => ?_⟩
     ·refine LWp.skip ?_
      simp
      refine cutQ.mk ⟨decide (x.kind = 34)⟩ (Weak.to [1, 19] [(1, 1)] (by decide) (by decide) (by simp [hp]) (by simp) (by simp)) ?_
      simp [h8]
     ·refine LWp.rz hT hW ?_
      simp
      refine cutQ.mk ⟨decide (x.kind = 35)⟩ (Weak.to [1, 19] [(1, 1)] (by decide) (by decide) (by simp [hp]) (by simp) (by simp)) ?_
      simp only [decide_eq_true_eq]; omega
    ·refine LWp.iff ?_
     simp
     refine ⟨fun h10 => ?_, fun h10 => ?_⟩
     ·have q10 := hc10.1 h10
      refine LWp.sz hT hW ?_
      simp
      refine LWp.ret ?_
      simp [f34 q10]
     ·have q10 : ¬ (x.kind = 34 ∨ x.kind = 35) := fun q => by simp [hc10.2 q] at h10
      refine LWp.skip ?_
      simp
      refine LWp.seq ?_
      have hk31 : x.kind ≤ 31 := by omega
      obtain ⟨a, b', hks, ra, ea, rb, eb, hTx⟩ := f26 hk31
      have q1 := ops_take (k := x.kind) f0.1 hk31
      have q2 := glob2_len
      obtain ⟨lv, hlv⟩ : ∃ lv : Int, lv = if levelAt x.kind = 1 then 2 else levelAt x.kind := ⟨_, rfl⟩
      rw [← hlv] at hTx
      refine LWp.rz hT hW ?_
      simp [q1]
      refine ⟨⟨⟨by omega, by omega⟩, by omega⟩, ?_⟩
      refine LWp.sz hT hW ?_
      simp
      refine LWp.seqCut (ι := Unit) (fun i => mkEnv [(1, .bx 1 0), (3, .bx 3 0), (4, .d (I64 lv))]) (fun i => mkObs [(1, .box false [.d (I64 x.kind), .d (.str x.text), .d (I64 x.n), .d (ndsD x.kids)]), (3, .box false [.d (.str (signAt x.kind)), .d (I64 (levelAt x.kind))])]) (fun i => True) ?_ fun i hc15 => ?_
      ·refine LWp.sz hT hW ?_
       simp
       refine LWp.iff ?_
       simp
       refine ⟨fun h13 => ?_, fun h13 => ?_⟩
       ·refine LWp.rz hT hW ?_
        simp
        exact (Weak.to [1, 3, 4] [(1, 1), (3, 3)] (by decide) (by decide) (by simp [hp]) (by simp [hlv, h13]) (by simp))
       ·refine LWp.skip ?_
        simp
        exact (Weak.to [1, 3, 4] [(1, 1), (3, 3)] (by decide) (by decide) (by simp [hp]) (by simp [hlv, h13]) (by simp))
      ·refine LWp.seq ?_
       rw [hks] at hwx ih
       simp only [weighL] at hwx
       have la := exprT_len a ra ea
       have lb := exprT_len b' rb eb
       have pa := paren_len (decide (lvlN a.kind < lv)) (exprT a)
       have pb := paren_len (decide (lvlN b'.kind < levelAt x.kind + 1)) (exprT b')
       have sl := sign_len x.kind ⟨f0.1, hk31⟩
       have ka := inside_ok a lv (ih a (by simp) ra ea (by omega)) (by omega)
       have kb := inside_ok b' (levelAt x.kind + 1) (ih b' (by simp) rb eb (by omega)) (by omega)
       have lvb := (op_levels f0.1 hk31).2.1
       refine LWp.regAny hT hW hMixed (lk [[],[0],[0,1],[0,1,2],[],[0,1,2,3,4],[0,1,2,3,4,5],[],[7],[0,1,2,3,4,5,6,7,8],[0,1,2,3,4,5,6,7,8,9],[],[11],[11,12],[11,12,13],[],[15],[15,16],[0,1,2,3,4,5,11,12,13,14,15,16,17],[0,1,2,3,4,5,6,7,8,9,10,11,12,13,14,15,16,17,18],[0,1,2,3,4,5,6,7,8,9,10,11,12,13,14,15,16,17,18,19]]) (lk [[],[],[],[],[],[],[51],[38,51],[38,51],[51],[51],[38],[38],[38],[38],[38],[38],[38],[],[],[]]) (lk [[],[],[],[],[],[38],[],[],[],[],[],[],[],[],[],[],[],[],[51],[],[]]) (by kernel_rfl) (fun | 38 => some <| .plain ⟨.d (.str (paren (decide (lvlN a.kind < lv)) (exprT a))), true⟩ | 51 => some <| .plain ⟨.d (.str (paren (decide (lvlN b'.kind < levelAt x.kind + 1)) (exprT b'))), true⟩ | _ => none) (by intro d; first | exact ⟨rfl, fun _ h => h⟩ | (split <;> exact ⟨rfl, fun _ h => h⟩)) ?_
       simp [hks]
       refine ⟨⟨⟨⟨⟨⟨⟨by simpa using ka, by omega⟩, by omega⟩, by omega⟩, by omega⟩, by simpa using kb⟩, by omega⟩, ?_⟩
       refine LWp.ret ?_
       simp [hTx]
theorem expr_ok (x : Nd) : rightN x = true → isExprK x.kind = true → weighN x ≤ 1000000000 → Ok Tryz.prog 133 [x.d] ⟨.d (.str (exprT x)), true⟩ :=
 Nd.ind (p := fun x => rightN x = true → isExprK x.kind = true → weighN x ≤ 1000000000 → Ok Tryz.prog 133 [x.d] ⟨.d (.str (exprT x)), true⟩) (fun _ _ _ _ ih hr he hw => expr_step _ hr he hw ih) x
end
open Go.Proofs
section
attribute [local simp] Res.cond Nd.d_eq nd_t nd_dr nd_td ndsD
theorem glob0_eq : glob0 = wordsL.map DV.str := rfl
theorem glob0_len : glob0.length = 26 := rfl
theorem word_at {k : Int} (h0 : 0 ≤ k) (h1 : k < 26) : glob0[k.toNat]?.getD default = .str (wordAt k) := by
 have hk : k.toNat < wordsL.length := by rw [words_len]; omega
 rw [glob0_eq, List.getElem?_map, List.getElem?_eq_getElem hk]
 simp [wordAt, List.getD_eq_getElem?_getD, hk]
theorem word_len (k : Int) : (wordAt k).length ≤ 7 := by
 unfold wordAt
 rw [List.getD_eq_getElem?_getD]
 cases e : wordsL[k.toNat]? with
 | none => simp
 | some w =>
  have := List.mem_of_getElem? e
  have h : ∀ w ∈ wordsL, w.length ≤ 7 := by decide
  exact h w this
theorem stmtsT_append : ∀ (a b : List Nd), stmtsT (a ++ b) = stmtsT a ++ stmtsT b
 | [], b => by simp [stmtsT]
 | x :: a, b => by simp [stmtsT, stmtsT_append a b]
theorem stmtsT_succ {l : List Nd} {i : Nat} (hi : i < l.length) : stmtsT (l.take (i + 1)) = stmtsT (l.take i) ++ (stmtT l[i] ++ [32]) := by
 rw [← List.take_append_getElem hi, stmtsT_append]; simp [stmtsT]
theorem withE_succ {l : List Nd} {i : Nat} (hi : i < l.length) : withE (l.take (i + 1)) = withE (l.take i) ++ 32 :: exprT l[i] := by
 unfold withE
 rw [← List.take_append_getElem hi, List.flatMap_append]; simp
theorem withE_len {l : List Nd} (h : ∀ e ∈ l, rightN e = true ∧ isExprK e.kind = true) : (withE l).length ≤ 9 * weighL l := by
 induction l with
 | nil => simp [withE]
 | cons a r ih =>
  have h1 := ih fun y hy => h y (List.mem_cons_of_mem _ hy)
  have h2 := exprT_len a (h a (by simp)).1 (h a (by simp)).2
  have h3 : 1 ≤ weighN a := by rw [weighN_eq]; omega
  have e : withE (a :: r) = 32 :: exprT a ++ withE r := by simp [withE]
  rw [e, weighL]
  simp only [List.length_append, List.length_cons]
  omega
def letT (t e : Str) : Str := 36 :: t ++ 32 :: 61 :: 32 :: (e ++ [59])
def setT (p e : Str) : Str := p ++ 32 :: 61 :: 32 :: (e ++ [59])
def ifT (w e b : Str) : Str := w ++ 32 :: (e ++ 32 :: b)
def elseT (a c : Str) : Str := a ++ 32 :: (sElse ++ 32 :: c)
theorem withE_take_len {l : List Nd} (h : ∀ e ∈ l, rightN e = true ∧ isExprK e.kind = true) (i : Nat) : (withE (l.take i)).length ≤ 9 * weighL l := by
 have h1 := withE_len h
 have h2 : withE (l.take i) ++ withE (l.drop i) = withE l := by unfold withE; rw [← List.flatMap_append, List.take_append_drop]
 rw [← h2, List.length_append] at h1
 omega
theorem stmtT_9 {x e : Nd} (h : x.kind = 9) (hk : x.kids = [e]) : stmtT x = letT x.text (exprT e) := by
 cases x; simp only [Nd.kind_mk, Nd.kids_mk] at h hk; subst hk; subst h; simp [stmtT, letT]
theorem stmtT_10 {x p e : Nd} (h : x.kind = 10) (hk : x.kids = [p, e]) : stmtT x = setT (exprT p) (exprT e) := by
 cases x; simp only [Nd.kind_mk, Nd.kids_mk] at h hk; subst hk; subst h; simp [stmtT, setT]
theorem stmtT_if2 {x e b : Nd} (h : x.kind = 11 ∨ x.kind = 12) (hk : x.kids = [e, b]) : stmtT x = ifT (wordAt x.kind) (exprT e) (blockT b) := by
 cases x; simp only [Nd.kind_mk, Nd.kids_mk] at h hk; subst hk; rcases h with rfl | rfl <;> simp [stmtT, ifT]
theorem stmtT_if3 {x e b c : Nd} (h : x.kind = 11 ∨ x.kind = 12) (hk : x.kids = [e, b, c]) : stmtT x = elseT (ifT (wordAt x.kind) (exprT e) (blockT b)) (blockT c) := by
 cases x; simp only [Nd.kind_mk, Nd.kids_mk] at h hk; subst hk; rcases h with rfl | rfl <;> simp [stmtT, ifT, elseT]
theorem stmtT_c {x : Nd} (h : 13 ≤ x.kind) : stmtT x = wordAt x.kind ++ midT x.kind x.text ++ withN x.n ++ withE x.kids ++ [59] := by
 cases x; exact stmtT_cmd _ _ _ h
theorem blockT_eq (x : Nd) : blockT x = 123 :: 32 :: (stmtsT x.kids ++ [125]) := by cases x; unfold blockT; rfl
def KidR (x : Nd) : Prop := rightN x = true ∧ isExprK x.kind = true
theorem stmt_facts {x : Nd} (hr : rightN x = true) (hk : isStmtK x.kind = true) : (9 ≤ x.kind ∧ x.kind ≤ 25) ∧ (x.kind = 9 → ∃ h0 : 0 < x.kids.length, KidR x.kids[0] ∧ stmtT x = letT x.text (exprT x.kids[0])) ∧
  (x.kind = 10 → ∃ (h0 : 0 < x.kids.length) (h1 : 1 < x.kids.length), KidR x.kids[0] ∧ KidR x.kids[1] ∧ stmtT x = setT (exprT x.kids[0]) (exprT x.kids[1])) ∧
  (x.kind = 11 ∨ x.kind = 12 → ∃ (h0 : 0 < x.kids.length) (h1 : 1 < x.kids.length), KidR x.kids[0] ∧ BlockR x.kids[1] ∧ ((x.kids.length = 2 ∧ stmtT x = ifT (wordAt x.kind) (exprT x.kids[0]) (blockT x.kids[1])) ∨
   ∃ h2 : 2 < x.kids.length, BlockR x.kids[2] ∧ stmtT x = elseT (ifT (wordAt x.kind) (exprT x.kids[0]) (blockT x.kids[1])) (blockT x.kids[2]))) ∧
  (13 ≤ x.kind → CmdR x.kind x.text x.n x.kids) := by
 refine ⟨isStmtK_iff.1 hk, ?_⟩
 rcases right_stmt hr hk with ⟨t', e, hx, h1, h2, h3⟩ | ⟨p, e, hx, h1, h2, h3, h4⟩ | ⟨k', e, b, hk', hx, h1, h2, h3, h4⟩ | ⟨e, b, c, hx, h1, h2, h3, h4, h5, h6⟩ | ⟨k', t', n', ks', h1, h2, hx, h3⟩
 ·subst hx
  exact ⟨fun _ => ⟨by simp, ⟨h2, h3⟩, stmtT_9 rfl rfl⟩, fun h => by simp at h, fun h => by simp at h, fun h => by simp at h⟩
 ·subst hx
  exact ⟨fun h => by simp at h, fun _ => ⟨by simp, by simp, ⟨h1, place_expr h2⟩, ⟨h3, h4⟩, stmtT_10 rfl rfl⟩, fun h => by simp at h, fun h => by simp at h⟩
 ·subst hx
  exact ⟨fun h => by simp at h; omega, fun h => by simp at h; omega, fun _ => ⟨by simp, by simp, ⟨h1, h2⟩, right_block h3 h4, .inl ⟨rfl, stmtT_if2 hk' rfl⟩⟩, fun h => by simp at h; omega⟩
 ·subst hx
  exact ⟨fun h => by simp at h, fun h => by simp at h, fun _ => ⟨by simp, by simp, ⟨h1, h2⟩, right_block h3 h4, .inr ⟨by simp, right_block h5 h6, stmtT_if3 (.inl rfl) rfl⟩⟩, fun h => by simp at h⟩
 ·subst hx
  exact ⟨fun h => by simp at h; omega, fun h => by simp at h; omega, fun h => by simp at h; omega, fun _ => h3⟩
theorem mid_len (k : Int) (t : Str) : (midT k t).length ≤ t.length + 2 := by
 unfold midT; split
 ·simp
 ·split <;> simp
theorem withN_len (n : Int) : (withN n).length ≤ 5 := by
 have := itoa_len n
 unfold withN; split
 ·simp only [List.length_cons]; omega
 ·simp
theorem stmtsT_take_len {l : List Nd} (h : ∀ y ∈ l, (stmtT y).length + 1 ≤ 40 * weighN y) (i : Nat) : (stmtsT (l.take i)).length ≤ 40 * weighL l := by
 have key : ∀ l : List Nd, (∀ y ∈ l, (stmtT y).length + 1 ≤ 40 * weighN y) → (stmtsT l).length ≤ 40 * weighL l := fun l => by
  induction l with
  | nil => intro _; simp [stmtsT]
  | cons a r ih =>
   intro h
   have h1 := ih fun y hy => h y (List.mem_cons_of_mem _ hy)
   have h2 := h a (by simp)
   have h3 : 1 ≤ weighN a := by rw [weighN_eq]; omega
   simp only [stmtsT, weighL, List.length_append, List.length_cons]
   omega
 have h1 := key l h
 have h2 := stmtsT_append (l.take i) (l.drop i)
 rw [List.take_append_drop] at h2
 rw [h2, List.length_append] at h1
 omega
theorem stmtT_len (x : Nd) : (rightN x = true → isStmtK x.kind = true → (stmtT x).length + 1 ≤ 40 * weighN x) ∧ (BlockR x → (blockT x).length ≤ 40 * weighN x) := by
 refine Nd.ind (p := fun x => (rightN x = true → isStmtK x.kind = true → (stmtT x).length + 1 ≤ 40 * weighN x) ∧ (BlockR x → (blockT x).length ≤ 40 * weighN x)) (fun k t n ks ih => ⟨?_, ?_⟩) x
 ·intro hr hk
  have hw : weighN (.mk k t n ks) = weighL ks + t.length + 1 := by rw [weighN]
  have hwl := word_len k
  rcases right_stmt hr hk with ⟨t', e, hx, h1, h2, h3⟩ | ⟨p, e, hx, h1, h2, h3, h4⟩ | ⟨k', e, b, hk', hx, h1, h2, h3, h4⟩ | ⟨e, b, c, hx, h1, h2, h3, h4, h5, h6⟩ | ⟨k', t', n', ks', h1, h2, hx, h3⟩
  ·injection hx with i1 i2 i3 i4
   subst i1; subst i2; subst i4
   have := exprT_len e h2 h3
   rw [stmtT_9 rfl rfl, hw]
   simp only [letT, weighL, List.length_append, List.length_cons, List.length_nil, Nd.text_mk]
   omega
  ·injection hx with i1 i2 i3 i4
   subst i1; subst i4
   have := exprT_len e h3 h4
   have := exprT_len p h1 (place_expr h2)
   rw [stmtT_10 rfl rfl, hw]
   simp only [setT, weighL, List.length_append, List.length_cons, List.length_nil]
   omega
  ·injection hx with i1 i2 i3 i4
   subst i1; subst i4
   have := exprT_len e h1 h2
   have := (ih b (by simp)).2 (right_block h3 h4)
   rw [stmtT_if2 (x := .mk k t n [e, b]) hk' rfl, hw]
   simp only [ifT, weighL, List.length_append, List.length_cons, Nd.kind_mk]
   omega
  ·injection hx with i1 i2 i3 i4
   subst i1; subst i4
   have := exprT_len e h1 h2
   have := (ih b (by simp)).2 (right_block h3 h4)
   have := (ih c (by simp)).2 (right_block h5 h6)
   rw [stmtT_if3 (.inl rfl) rfl, hw]
   simp only [ifT, elseT, weighL, List.length_append, List.length_cons, Nd.kind_mk, show sElse.length = 4 from rfl]
   omega
  ·injection hx with i1 i2 i3 i4
   subst i1; subst i2; subst i3; subst i4
   have := withE_len (cmd_facts h3).2.2.2
   have := mid_len k t
   have := withN_len n
   rw [stmtT_cmd _ _ _ h1, hw]
   simp only [List.length_append, List.length_cons, List.length_nil]
   omega
 ·rintro ⟨ks', hx, hy⟩
  injection hx with i1 i2 i3 i4
  subst i4
  have key : ∀ l : List Nd, (∀ y ∈ l, (stmtT y).length + 1 ≤ 40 * weighN y) → (stmtsT l).length ≤ 40 * weighL l := fun l => by
   induction l with
   | nil => intro _; simp [stmtsT]
   | cons a r ih =>
    intro h
    have h1 := ih fun y hy => h y (List.mem_cons_of_mem _ hy)
    have h2 := h a (by simp)
    have h3 : 1 ≤ weighN a := by rw [weighN_eq]; omega
    simp only [stmtsT, weighL, List.length_append, List.length_cons]
    omega
  have := key ks fun y hyk => (ih y hyk).1 (hy y hyk).1 (hy y hyk).2
  rw [blockT_eq, weighN]
  simp only [Nd.kids_mk, List.length_append, List.length_cons, List.length_nil]
  omega
theorem block_step (x : Nd) (hb : BlockR x) (hw : weighN x ≤ 1000000000) (ih : ∀ y ∈ x.kids, Ok Tryz.prog 101 [y.d] ⟨.d (.str (stmtT y)), true⟩) : Ok Tryz.prog 65 [x.d] ⟨.d (.str (blockT x)), true⟩ := by
 refine Ok.ret Tryz.func65 (by kernel_rfl) (c := _) rfl Tryz.ntmps65 (by simp) Tryz.results65 (by intro _ h; cases h) fun w0 X hp => ?_
 have hlen := (stmtT_len x).2 hb
 have hwx := kids_weigh x
 have hstm : ∀ y ∈ x.kids, rightN y = true ∧ isStmtK y.kind = true := by obtain ⟨ks, rfl, h⟩ := hb; exact h
 refine LWp.sz hT hW ?_
 simp
 refine LWp.sz hT hW ?_
 simp
 refine LWp.seq ?_
 refine LWp.sz hT hW ?_
 simp
 refine LWp.block ?_
 refine LWp.loopW (ι := Nat) (fun i => mkEnv [(3, .d (.str (123 :: 32 :: stmtsT (x.kids.take i)))), (7, .d (ndsD x.kids)), (8, .d (I64 x.kids.length)), (9, .d (I64 i))]) (fun i => mkObs []) (fun i => i ≤ x.kids.length) (fun i => x.kids.length - i) 0 (Weak.to [3, 7, 8, 9] [] (by decide) (by decide) (by simp [hp]) (by simp [stmtsT]) (by simp)) (Nat.zero_le _) fun i hi3 => ?_
 refine LWp.sz hT hW ?_
 simp
 refine LWp.seq ?_
 refine LWp.iff ?_
 simp
 refine ⟨fun h3 => ?_, fun h3 => ?_⟩
 ·refine LWp.skip ?_
  simp
  refine LWp.seq ?_
  refine LWp.block ?_
  refine LWp.seq ?_
  have hi : i < x.kids.length := by omega
  refine LWp.rz hT hW ?_
  simp [hi]
  have hk := ih _ (List.getElem_mem hi)
  have hs := hstm _ (List.getElem_mem hi)
  have l1 := (stmtT_len x.kids[i]).1 hs.1 hs.2
  have l2 := kid_weigh hi
  have l3 := stmtsT_take_len (l := x.kids) (fun y hy => (stmtT_len y).1 (hstm y hy).1 (hstm y hy).2) i
  have l4 := weighN_eq x
  refine LWp.ro hT hW (fun | 15 => some <| .plain ⟨.d (.str (stmtT x.kids[i])), true⟩ | _ => none) ?_
  simp
  refine ⟨⟨⟨by simpa using hk, by omega⟩, by omega⟩, ?_⟩
  refine LWp.rz hT hW ?_
  simp
  refine ⟨by omega, ?_⟩
  refine loopQ.mk (i + 1) (Weak.to [3, 7, 8, 9] [] (by decide) (by decide) (by simp [hp]) (by simp [stmtsT_succ hi]) (by simp)) ?_ ?_
  ·omega
  ·omega
 ·refine LWp.exit ?_
  simp
  refine LWp.seq ?_
  have hi : i = x.kids.length := by omega
  subst hi
  rw [List.take_length]
  rw [blockT_eq] at hlen
  simp only [List.length_append, List.length_cons] at hlen
  refine LWp.rz hT hW ?_
  simp
  refine ⟨by omega, ?_⟩
  refine LWp.ret ?_
  simp [blockT_eq]
end
open Go.Proofs
section
attribute [local simp] Res.cond Nd.d_eq nd_t nd_dr nd_td ndsD
theorem stmt_step (x : Nd) (hr : rightN x = true) (hk : isStmtK x.kind = true) (hw : weighN x ≤ 1000000000) (ihb : ∀ y ∈ x.kids, BlockR y → Ok Tryz.prog 65 [y.d] ⟨.d (.str (blockT y)), true⟩) : Ok Tryz.prog 101 [x.d] ⟨.d (.str (stmtT x)), true⟩ := by
 refine Ok.ret Tryz.func101 (by kernel_rfl) (c := _) rfl Tryz.ntmps101 (by simp) Tryz.results101 (by intro _ h; cases h) fun w0 X hp => ?_
 obtain ⟨f0, f9, f10, f11, f13⟩ := stmt_facts hr hk
 have hwx := weighN_eq x
 have hlen := (stmtT_len x).1 hr hk
 have wl := word_len x.kind
 have q2 := glob0_len
 have hmem : ∀ (i : Nat) (hi : i < x.kids.length), weighN x.kids[i] < weighN x := fun i hi => kid_weigh hi
 refine LWp.sz hT hW ?_
 simp
 refine LWp.seq ?_
 refine LWp.sz hT hW ?_
 simp
 refine LWp.block ?_
 refine LWp.sz hT hW ?_
 simp
 refine LWp.iff ?_
 simp
 refine ⟨fun h2 => ?_, fun h2 => ?_⟩
 ·refine LWp.seq ?_
  obtain ⟨h0, k0, e0⟩ := f9 h2
  have w0 := hmem 0 h0
  have l0 := exprT_len _ k0.1 k0.2
  have c0 := expr_ok _ k0.1 k0.2 (by omega)
  refine LWp.regAny hT hW hMixed (lk [[],[0],[0,1],[0,1,2],[],[4],[4,5],[4,5,6],[4,5,6,7],[0,1,2,3,4,5,6,7,8],[0,1,2,3,4,5,6,7,8,9],[0,1,2,3,4,5,6,7,8,9,10]]) (lk [[19],[19],[19],[19],[],[],[],[],[],[],[],[]]) (lk [[],[],[],[],[],[],[],[],[19],[],[],[]]) (by kernel_rfl) (fun | 19 => some <| .plain ⟨.d (.str (exprT x.kids[0])), true⟩ | _ => none) (by intro d; first | exact ⟨rfl, fun _ h => h⟩ | (split <;> exact ⟨rfl, fun _ h => h⟩)) ?_
  simp [h0]
  refine ⟨⟨⟨⟨⟨by omega, by omega⟩, by simpa using c0⟩, by omega⟩, by omega⟩, ?_⟩
  refine LWp.ret ?_
  simp [e0, letT]
 ·refine LWp.sz hT hW ?_
  simp
  refine LWp.iff ?_
  simp
  refine ⟨fun h4 => ?_, fun h4 => ?_⟩
  ·refine LWp.seq ?_
   obtain ⟨h0, h1, k0, k1, e0⟩ := f10 h4
   have w0 := hmem 0 h0
   have w1 := hmem 1 h1
   have l0 := exprT_len _ k0.1 k0.2
   have l1 := exprT_len _ k1.1 k1.2
   have c0 := expr_ok _ k0.1 k0.2 (by omega)
   have c1 := expr_ok _ k1.1 k1.2 (by omega)
   refine LWp.regAny hT hW hMixed (lk [[],[0],[0,1],[0,1,2],[0,1,2,3],[0,1,2,3,4],[],[6],[6,7],[6,7,8],[0,1,2,3,4,6,7,8,9],[0,1,2,3,4,5,6,7,8,9,10],[0,1,2,3,4,5,6,7,8,9,10,11],[0,1,2,3,4,5,6,7,8,9,10,11,12]]) (lk [[],[],[],[],[],[34],[28],[28],[28],[28],[],[],[],[]]) (lk [[],[],[],[],[28],[],[],[],[],[],[34],[],[],[]]) (by kernel_rfl) (fun | 28 => some <| .plain ⟨.d (.str (exprT x.kids[0])), true⟩ | 34 => some <| .plain ⟨.d (.str (exprT x.kids[1])), true⟩ | _ => none) (by intro d; first | exact ⟨rfl, fun _ h => h⟩ | (split <;> exact ⟨rfl, fun _ h => h⟩)) ?_
   simp [h0, h1]
   refine ⟨by (repeat' with_reducible apply And.intro) <;> first | omega | (simpa using c0) | (simpa using c1), ?_⟩
   refine LWp.ret ?_
   simp [e0, setT]
  ·refine LWp.seqCut (ι := BC) (fun ⟨b⟩ => mkEnv [(1, .bx 1 0), (37, .d (.bool b))]) (fun ⟨b⟩ => mkObs [(1, .box false [.d (I64 x.kind), .d (.str x.text), .d (I64 x.n), .d (ndsD x.kids)])]) (fun ⟨b⟩ => b = true ↔ (x.kind = 11 ∨ x.kind = 12)) ?_ fun ⟨b⟩ hc8 => ?_
   ·refine LWp.sz hT hW ?_
    simp
    refine LWp.iff ?_
    simp
    refine ⟨fun h6 => ?_, fun h6 => ?_⟩
    ·refine LWp.skip ?_
     simp
     refine cutQ.mk ⟨decide (x.kind = 11)⟩ (Weak.to [1, 37] [(1, 1)] (by decide) (by decide) (by simp [hp]) (by simp) (by simp)) ?_
     simp [h6]
    ·refine LWp.rz hT hW ?_
     simp
     refine cutQ.mk ⟨decide (x.kind = 12)⟩ (Weak.to [1, 37] [(1, 1)] (by decide) (by decide) (by simp [hp]) (by simp) (by simp)) ?_
     simp only [decide_eq_true_eq]; omega
   ·refine LWp.iff ?_
    simp
    refine ⟨fun h8 => ?_, fun h8 => ?_⟩
    ·have q8 := hc8.1 h8
     refine LWp.seq ?_
     obtain ⟨h0, h1, k0, b1, e0⟩ := f11 q8
     have w0 := hmem 0 h0
     have w1 := hmem 1 h1
     have l0 := exprT_len _ k0.1 k0.2
     have l1 := (stmtT_len x.kids[1]).2 b1
     have c0 := expr_ok _ k0.1 k0.2 (by omega)
     have c1 := ihb _ (List.getElem_mem h1) b1
     have q1 := word_at (k := x.kind) (by omega) (by omega)
     refine LWp.regAny hT hW hMixed (lk [[],[0],[0,1],[0,1,2],[0,1,2,3],[],[5],[5,6],[5,6,7],[5,6,7,8],[0,1,2,3,4,5,6,7,8,9],[0,1,2,3,4,5,6,7,8,9,10],[],[12],[12,13],[12,13,14],[5,6,7,8,9,12,13,14,15],[0,1,2,3,4,5,6,7,8,9,10,11,12,13,14,15,16],[0,1,2,3,4,5,6,7,8,9,10,11,12,13,14,15,16,17]]) (lk [[49,56],[49,56],[49,56],[49,56],[49,56],[],[],[],[],[],[56],[56],[49],[49],[49],[49],[],[],[]]) (lk [[],[],[],[],[],[],[],[],[],[49],[],[],[],[],[],[],[56],[],[]]) (by kernel_rfl) (fun | 49 => some <| .plain ⟨.d (.str (exprT x.kids[0])), true⟩ | 56 => some <| .plain ⟨.d (.str (blockT x.kids[1])), true⟩ | _ => none) (by intro d; first | exact ⟨rfl, fun _ h => h⟩ | (split <;> exact ⟨rfl, fun _ h => h⟩)) ?_
     simp [h0, h1, q1]
     refine ⟨⟨⟨⟨⟨⟨⟨⟨⟨by omega, by omega⟩, by omega⟩, by simpa using c0⟩, by omega⟩, by omega⟩, by omega⟩, by simpa using c1⟩, by omega⟩, ?_⟩
     refine LWp.seq ?_
     refine LWp.sz hT hW ?_
     simp
     refine LWp.iff ?_
     simp
     refine ⟨fun h9 => ?_, fun h9 => ?_⟩
     ·have h2' : 2 < x.kids.length := by omega
      rcases e0 with ⟨e0, _⟩ | ⟨_, b2, e0⟩
      ·omega
      have w2 := hmem 2 h2'
      have l2 := (stmtT_len x.kids[2]).2 b2
      have c2 := ihb _ (List.getElem_mem h2') b2
      refine LWp.ro hT hW (fun | 67 => some <| .plain ⟨.d (.str (blockT x.kids[2])), true⟩ | _ => none) ?_
      simp [h2']
      refine ⟨by (repeat' with_reducible apply And.intro) <;> first | omega | (simpa using c2), ?_⟩
      refine LWp.sz hT hW ?_
      simp
      refine LWp.ret ?_
      simp [e0, ifT, elseT, sElse]
     ·refine LWp.skip ?_
      simp
      refine LWp.sz hT hW ?_
      simp
      refine LWp.ret ?_
      rcases e0 with ⟨_, e0⟩ | ⟨h2, _, _⟩
      ·simp [e0, ifT]
      ·omega
    ·have q8 : ¬ (x.kind = 11 ∨ x.kind = 12) := fun q => by simp [hc8.2 q] at h8
     refine LWp.skip ?_
     simp
     refine LWp.seq ?_
     have hcm := f13 (by omega)
     obtain ⟨g1, g2, g3, g4⟩ := cmd_facts hcm
     have e0 := stmtT_c (x := x) (by omega)
     have ml := mid_len x.kind x.text
     have nl := withN_len x.n
     have kl := withE_len g4
     have q1 := word_at (k := x.kind) (by omega) (by omega)
     refine LWp.rz hT hW ?_
     simp [q1]
     refine ⟨by (repeat' with_reducible apply And.intro) <;> omega, ?_⟩
     refine LWp.seqCut (ι := Unit) (fun i => mkEnv [(1, .bx 1 0), (4, .d (.str (wordAt x.kind ++ midT x.kind x.text)))]) (fun i => mkObs [(1, .box false [.d (I64 x.kind), .d (.str x.text), .d (I64 x.n), .d (ndsD x.kids)])]) (fun i => True) ?_ fun i hc21 => ?_
     ·refine LWp.sz hT hW ?_
      simp
      refine LWp.block ?_
      refine LWp.seqCut (ι := BC) (fun ⟨b⟩ => mkEnv [(1, .bx 1 0), (4, .d (.str (wordAt x.kind))), (76, .d (I64 x.kind)), (82, .d (.bool b))]) (fun ⟨b⟩ => mkObs [(1, .box false [.d (I64 x.kind), .d (.str x.text), .d (I64 x.n), .d (ndsD x.kids)])]) (fun ⟨b⟩ => b = true ↔ (x.kind = 19 ∨ x.kind = 20)) ?_ fun ⟨b⟩ hc17 => ?_
      ·refine LWp.sz hT hW ?_
       simp
       refine LWp.iff ?_
       simp
       refine ⟨fun h15 => ?_, fun h15 => ?_⟩
       ·refine LWp.skip ?_
        simp
        refine cutQ.mk ⟨decide (x.kind = 19)⟩ (Weak.to [1, 4, 76, 82] [(1, 1)] (by decide) (by decide) (by simp [hp]) (by simp) (by simp)) ?_
        simp [h15]
       ·refine LWp.rz hT hW ?_
        simp
        refine cutQ.mk ⟨decide (x.kind = 20)⟩ (Weak.to [1, 4, 76, 82] [(1, 1)] (by decide) (by decide) (by simp [hp]) (by simp) (by simp)) ?_
        simp only [decide_eq_true_eq]; omega
      ·refine LWp.iff ?_
       simp
       refine ⟨fun h17 => ?_, fun h17 => ?_⟩
       ·have q17 := hc17.1 h17
        refine LWp.rz hT hW ?_
        simp
        refine ⟨by (repeat' with_reducible apply And.intro) <;> omega, ?_⟩
        exact (Weak.to [1, 4] [(1, 1)] (by decide) (by decide) (by simp [hp]) (by simp [midT, q17]) (by simp))
       ·have q17 : ¬ (x.kind = 19 ∨ x.kind = 20) := fun q => by simp [hc17.2 q] at h17
        refine LWp.seqCut (ι := BC) (fun ⟨b⟩ => mkEnv [(1, .bx 1 0), (4, .d (.str (wordAt x.kind))), (76, .d (I64 x.kind)), (90, .d (.bool b))]) (fun ⟨b⟩ => mkObs [(1, .box false [.d (I64 x.kind), .d (.str x.text), .d (I64 x.n), .d (ndsD x.kids)])]) (fun ⟨b⟩ => b = true ↔ (x.kind = 21 ∨ x.kind = 25 ∨ x.kind = 24)) ?_ fun ⟨b⟩ hc14 => ?_
        ·refine LWp.sz hT hW ?_
         simp
         refine LWp.iff ?_
         simp
         refine ⟨fun h18 => ?_, fun h18 => ?_⟩
         ·refine LWp.skip ?_
          simp
          refine cutQ.mk ⟨decide (x.kind = 21)⟩ (Weak.to [1, 4, 76, 90] [(1, 1)] (by decide) (by decide) (by simp [hp]) (by simp) (by simp)) ?_
          simp [h18]
         ·refine LWp.sz hT hW ?_
          simp
          refine LWp.iff ?_
          simp
          refine ⟨fun h19 => ?_, fun h19 => ?_⟩
          ·refine LWp.skip ?_
           simp
           refine cutQ.mk ⟨decide (x.kind = 25)⟩ (Weak.to [1, 4, 76, 90] [(1, 1)] (by decide) (by decide) (by simp [hp]) (by simp) (by simp)) ?_
           simp [h19]
          ·refine LWp.rz hT hW ?_
           simp
           refine cutQ.mk ⟨decide (x.kind = 24)⟩ (Weak.to [1, 4, 76, 90] [(1, 1)] (by decide) (by decide) (by simp [hp]) (by simp) (by simp)) ?_
           simp only [decide_eq_true_eq]; omega
        ·refine LWp.iff ?_
         simp
         refine ⟨fun h14 => ?_, fun h14 => ?_⟩
         ·have q14 := hc14.1 h14
          refine LWp.skip ?_
          simp
          exact (Weak.to [1, 4] [(1, 1)] (by decide) (by decide) (by simp [hp]) (by simp [midT, q17, q14]) (by simp))
         ·have q14 : ¬ (x.kind = 21 ∨ x.kind = 25 ∨ x.kind = 24) := fun q => by simp [hc14.2 q] at h14
          refine LWp.rz hT hW ?_
          simp
          refine ⟨by (repeat' with_reducible apply And.intro) <;> omega, ?_⟩
          exact (Weak.to [1, 4] [(1, 1)] (by decide) (by decide) (by simp [hp]) (by simp [midT, q17, q14]) (by simp))
     ·refine LWp.seqCut (ι := Unit) (fun i => mkEnv [(1, .bx 1 0), (4, .d (.str (wordAt x.kind ++ (midT x.kind x.text ++ withN x.n))))]) (fun i => mkObs [(1, .box false [.d (I64 x.kind), .d (.str x.text), .d (I64 x.n), .d (ndsD x.kids)])]) (fun i => True) ?_ fun i hc23 => ?_
      ·refine LWp.sz hT hW ?_
       simp
       refine LWp.iff ?_
       simp
       refine ⟨fun h21 => ?_, fun h21 => ?_⟩
       ·have ci := Itoa_ok x.n (by omega) g3
        have hn : withN x.n = 32 :: itoaS x.n := by unfold withN; rw [if_pos h21]
        have il := itoa_len x.n
        refine LWp.ro hT hW (fun | 100 => some <| .plain ⟨.d (.str (itoaS x.n)), true⟩ | _ => none) ?_
        simp
        refine ⟨by (repeat' with_reducible apply And.intro) <;> first | omega | (simpa using ci) | (simp only [List.length_append]; omega), ?_⟩
        exact (Weak.to [1, 4] [(1, 1)] (by decide) (by decide) (by simp [hp]) (by simp [hn]) (by simp))
       ·refine LWp.skip ?_
        simp
        exact (Weak.to [1, 4] [(1, 1)] (by decide) (by decide) (by simp [hp]) (by simp [withN, show ¬ 0 < x.n by omega]) (by simp))
      ·refine LWp.seq ?_
       refine LWp.sz hT hW ?_
       simp
       refine LWp.block ?_
       refine LWp.loopW (ι := Nat) (fun i => mkEnv [(4, .d (.str (wordAt x.kind ++ (midT x.kind x.text ++ (withN x.n ++ withE (x.kids.take i)))))), (104, .d (ndsD x.kids)), (105, .d (I64 x.kids.length)), (106, .d (I64 i))]) (fun i => mkObs []) (fun i => i ≤ x.kids.length) (fun i => x.kids.length - i) 0 (Weak.to [4, 104, 105, 106] [] (by decide) (by decide) (by simp [hp]) (by simp [withE]) (by simp)) (Nat.zero_le _) fun i hi24 => ?_
       refine LWp.sz hT hW ?_
       simp
       refine LWp.seq ?_
       refine LWp.iff ?_
       simp
       refine ⟨fun h24 => ?_, fun h24 => ?_⟩
       ·refine LWp.skip ?_
        simp
        refine LWp.seq ?_
        refine LWp.block ?_
        refine LWp.seq ?_
        have hi : i < x.kids.length := by omega
        refine LWp.rz hT hW ?_
        simp [hi]
        have ki := g4 _ (List.getElem_mem hi)
        have wi := hmem i hi
        have li := exprT_len _ ki.1 ki.2
        have ci := expr_ok _ ki.1 ki.2 (by omega)
        have lt := withE_take_len g4 i
        refine LWp.ro hT hW (fun | 112 => some <| .plain ⟨.d (.str (exprT x.kids[i])), true⟩ | _ => none) ?_
        simp
        refine ⟨by (repeat' with_reducible apply And.intro) <;> first | omega | (simpa using ci) | (simp only [List.length_append]; omega), ?_⟩
        have := kids_weigh x
        refine LWp.rz hT hW ?_
        simp
        refine ⟨by omega, ?_⟩
        refine loopQ.mk (i + 1) (Weak.to [4, 104, 105, 106] [] (by decide) (by decide) (by simp [hp]) (by simp [withE_succ hi]) (by simp)) ?_ ?_
        ·omega
        ·omega
       ·refine LWp.exit ?_
        simp
        refine LWp.seq ?_
        have hi : i = x.kids.length := by omega
        subst hi
        rw [List.take_length]
        refine LWp.rz hT hW ?_
        simp
        refine ⟨by first | omega | (simp only [List.length_append]; omega), ?_⟩
        refine LWp.ret ?_
        simp [e0]
end
open Go.Proofs
section
attribute [local simp] Res.cond Nd.d_eq nd_t nd_dr nd_td ndsD
theorem sb_ok (x : Nd) : (rightN x = true → isStmtK x.kind = true → weighN x ≤ 1000000000 → Ok Tryz.prog 101 [x.d] ⟨.d (.str (stmtT x)), true⟩) ∧ (BlockR x → weighN x ≤ 1000000000 → Ok Tryz.prog 65 [x.d] ⟨.d (.str (blockT x)), true⟩) := by
 refine Nd.ind (p := fun x => (rightN x = true → isStmtK x.kind = true → weighN x ≤ 1000000000 → Ok Tryz.prog 101 [x.d] ⟨.d (.str (stmtT x)), true⟩) ∧ (BlockR x → weighN x ≤ 1000000000 → Ok Tryz.prog 65 [x.d] ⟨.d (.str (blockT x)), true⟩)) (fun k t n ks ih => ⟨?_, ?_⟩) x
 ·intro hr hk hw
  have hwk : ∀ y ∈ ks, weighN y ≤ 1000000000 := fun y hy => by have := weigh_mem hy; rw [weighN] at hw; omega
  exact stmt_step _ hr hk hw fun y hy hb => (ih y hy).2 hb (hwk y hy)
 ·intro hb hw
  have hwk : ∀ y ∈ ks, weighN y ≤ 1000000000 := fun y hy => by have := weigh_mem hy; rw [weighN] at hw; omega
  obtain ⟨ks', hx, hy⟩ := id hb
  injection hx with i1 i2 i3 i4
  exact block_step _ hb hw fun y hyk => (ih y hyk).1 (hy y (i4 ▸ hyk)).1 (hy y (i4 ▸ hyk)).2 (hwk y hyk)
theorem itemT_len {x : Nd} : (itemT x).length ≤ 9 * weighN x := by
 have := itoa_len x.n
 rw [weighN_eq]
 simp only [itemT, List.length_append, List.length_cons, List.length_nil]
 omega
theorem itemsT_len : ∀ l : List Nd, (l.flatMap itemT).length ≤ 9 * weighL l
 | [] => by simp
 | a :: r => by
  have h1 := itemsT_len r
  have h2 := itemT_len (x := a)
  simp only [List.flatMap_cons, weighL, List.length_append]
  omega
theorem items_succ {l : List Nd} {i : Nat} (hi : i < l.length) : (l.take (i + 1)).flatMap itemT = (l.take i).flatMap itemT ++ itemT l[i] := by
 rw [← List.take_append_getElem hi, List.flatMap_append]; simp
theorem items_take_len {l : List Nd} (i : Nat) : ((l.take i).flatMap itemT).length ≤ 9 * weighL l := by
 have h1 := itemsT_len l
 have h2 : (l.take i).flatMap itemT ++ (l.drop i).flatMap itemT = l.flatMap itemT := by rw [← List.flatMap_append, List.take_append_drop]
 rw [← h2, List.length_append] at h1
 omega
def itemsOf (l : List Nd) : Str := l.flatMap itemT
theorem text_ok (x : Nd) (hd : DefR x) (hw : weighN x ≤ 1000000000) : Ok Tryz.prog 40 [x.d] ⟨.d (.str (textT x)), true⟩ := by
 refine Ok.ret Tryz.func40 (by kernel_rfl) (c := _) rfl Tryz.ntmps40 (by simp) Tryz.results40 (by intro _ h; cases h) fun w0 X hp => ?_
 obtain ⟨ht, hd⟩ := hd
 have hwx := weighN_eq x
 have wl := word_len x.kind
 have q2 := glob0_len
 have f0 : 0 ≤ x.kind ∧ x.kind ≤ 6 := by rcases hd with ⟨h | h, _⟩ | ⟨h, _⟩ | ⟨h, _⟩ | ⟨h, _⟩ | ⟨h | h, _⟩ <;> omega
 have q1 := word_at (k := x.kind) (by omega) (by omega)
 have il := itoa_len x.n
 refine LWp.sz hT hW ?_
 simp
 refine LWp.seq ?_
 refine LWp.regAny hT hW hMixed (lk [[],[0],[0,1],[0,1,2],[0,1,2,3],[],[5],[0,1,2,3,4,5,6],[0,1,2,3,4,5,6,7]]) (lk [[],[],[],[],[],[],[],[],[]]) (lk [[],[],[],[],[],[],[],[],[]]) (by kernel_rfl) (fun _ => none) (fun _ => ⟨rfl, fun _ h => h⟩) ?_
 simp [q1]
 refine ⟨by (repeat' with_reducible apply And.intro) <;> omega, ?_⟩
 refine LWp.seq ?_
 refine LWp.sz hT hW ?_
 simp
 refine LWp.block ?_
 refine LWp.seqCut (ι := BC) (fun ⟨b⟩ => mkEnv [(1, .bx 1 0), (3, .d (.str (wordAt x.kind ++ 32 :: x.text))), (15, .d (I64 x.kind)), (16, .d (.bool b))]) (fun ⟨b⟩ => mkObs [(1, .box false [.d (I64 x.kind), .d (.str x.text), .d (I64 x.n), .d (ndsD x.kids)])]) (fun ⟨b⟩ => b = true ↔ (x.kind = 5 ∨ x.kind = 6)) ?_ fun ⟨b⟩ hc5 => ?_
 ·refine LWp.sz hT hW ?_
  simp
  refine LWp.iff ?_
  simp
  refine ⟨fun h3 => ?_, fun h3 => ?_⟩
  ·refine LWp.skip ?_
   simp
   refine cutQ.mk ⟨decide (x.kind = 5)⟩ (Weak.to [1, 3, 15, 16] [(1, 1)] (by decide) (by decide) (by simp [hp]) (by simp) (by simp)) ?_
   simp [h3]
  ·refine LWp.rz hT hW ?_
   simp
   refine cutQ.mk ⟨decide (x.kind = 6)⟩ (Weak.to [1, 3, 15, 16] [(1, 1)] (by decide) (by decide) (by simp [hp]) (by simp) (by simp)) ?_
   simp only [decide_eq_true_eq]; omega
 ·refine LWp.iff ?_
  simp
  refine ⟨fun h5 => ?_, fun h5 => ?_⟩
  ·have q5 := hc5.1 h5
   refine LWp.seq ?_
   have hd5 : ∃ b, x = .mk x.kind x.text 0 [b] ∧ BlockR b := by
    rcases hd with ⟨_, h⟩ | ⟨h, _⟩ | ⟨h, _⟩ | ⟨h, _⟩ | ⟨h | h, _⟩ <;> first | exact h | omega
   obtain ⟨c, hx, hb⟩ := hd5
   have hks : x.kids = [c] := by rw [hx]; rfl
   rw [hks] at hwx
   simp only [weighL] at hwx
   have bl := (stmtT_len c).2 hb
   have kb := (sb_ok c).2 hb (by omega)
   refine LWp.ro hT hW (fun | 25 => some <| .plain ⟨.d (.str (blockT c)), true⟩ | _ => none) ?_
   simp [hks]
   refine ⟨⟨⟨by omega, by simpa using kb⟩, by omega⟩, ?_⟩
   refine LWp.ret ?_
   simp [textT, q5, hks]
  ·have q5 : ¬ (x.kind = 5 ∨ x.kind = 6) := fun q => by simp [hc5.2 q] at h5
   refine LWp.sz hT hW ?_
   simp
   refine LWp.iff ?_
   simp
   refine ⟨fun h6 => ?_, fun h6 => ?_⟩
   ·refine LWp.seq ?_
    have hd7 : ∀ y ∈ x.kids, ItemR y := by
     rcases hd with ⟨h | h, _⟩ | ⟨_, _, h⟩ | ⟨h, _⟩ | ⟨h, _⟩ | ⟨h | h, _⟩ <;> first | exact h | omega
    refine LWp.rz hT hW ?_
    simp
    refine ⟨by omega, ?_⟩
    refine LWp.seq ?_
    refine LWp.sz hT hW ?_
    simp
    refine LWp.block ?_
    refine LWp.loopW (ι := Nat) (fun i => mkEnv [(3, .d (.str (wordAt x.kind ++ 32 :: (x.text ++ 32 :: 123 :: 32 :: itemsOf (x.kids.take i))))), (32, .d (ndsD x.kids)), (33, .d (I64 x.kids.length)), (34, .d (I64 i))]) (fun i => mkObs []) (fun i => i ≤ x.kids.length) (fun i => x.kids.length - i) 0 (Weak.to [3, 32, 33, 34] [] (by decide) (by decide) (by simp [hp]) (by simp [itemsOf]) (by simp)) (Nat.zero_le _) fun i hi9 => ?_
    refine LWp.sz hT hW ?_
    simp
    refine LWp.seq ?_
    refine LWp.iff ?_
    simp
    refine ⟨fun h9 => ?_, fun h9 => ?_⟩
    ·refine LWp.skip ?_
     simp
     refine LWp.seq ?_
     refine LWp.block ?_
     refine LWp.seq ?_
     have hi : i < x.kids.length := by omega
     refine LWp.rz hT hW ?_
     simp [hi]
     obtain ⟨t', n', hy, g1, g2, g3⟩ := hd7 _ (List.getElem_mem hi)
     have en : x.kids[i].n = n' := by rw [hy]; rfl
     have ci := Itoa_ok x.kids[i].n (by omega) (by omega)
     have lt := items_take_len (l := x.kids) i
     have li := itoa_len x.kids[i].n
     have wi := kid_weigh hi
     rw [weighN_eq x.kids[i]] at wi
     have lo : (itemsOf (x.kids.take i)).length ≤ 9 * weighL x.kids := lt
     refine LWp.regAny hT hW hMixed (lk [[],[],[1],[1,2],[],[4],[4,5],[1,2,3,4,5,6],[1,2,3,4,5,6,7],[0,1,2,3,4,5,6,7,8],[0,1,2,3,4,5,6,7,8,9]]) (lk [[44],[44],[44],[44],[],[],[],[],[],[],[]]) (lk [[],[],[],[],[],[],[44],[],[],[],[]]) (by kernel_rfl) (fun | 44 => some <| .plain ⟨.d (.str (itoaS x.kids[i].n)), true⟩ | _ => none) (by intro d; first | exact ⟨rfl, fun _ h => h⟩ | (split <;> exact ⟨rfl, fun _ h => h⟩)) ?_
     simp
     refine ⟨by (repeat' with_reducible apply And.intro) <;> first | omega | exact ci | (simp only [List.length_append, List.length_cons]; omega), ?_⟩
     have := kids_weigh x
     refine LWp.rz hT hW ?_
     simp
     refine ⟨by omega, ?_⟩
     refine loopQ.mk (i + 1) (Weak.to [3, 32, 33, 34] [] (by decide) (by decide) (by simp [hp]) (by simp [itemsOf, items_succ hi, itemT]) (by simp)) ?_ ?_
     ·omega
     ·omega
    ·refine LWp.exit ?_
     simp
     refine LWp.seq ?_
     have hi : i = x.kids.length := by omega
     subst hi
     rw [List.take_length]
     have lt := itemsT_len x.kids
     have lo : (itemsOf x.kids).length ≤ 9 * weighL x.kids := lt
     refine LWp.rz hT hW ?_
     simp
     refine ⟨by omega, ?_⟩
     refine LWp.ret ?_
     simp [textT, q5, h6, itemsOf]
   ·refine LWp.sz hT hW ?_
    simp
    refine LWp.iff ?_
    simp
    refine ⟨fun h14 => ?_, fun h14 => ?_⟩
    ·have hd15 : -999 ≤ x.n ∧ x.n ≤ 999 := by
      rcases hd with ⟨h | h, _⟩ | ⟨h, _⟩ | ⟨_, _, h⟩ | ⟨h, _⟩ | ⟨h | h, _⟩ <;> omega
     have ci := Itoa_ok x.n hd15.1 hd15.2
     refine LWp.ro hT hW (fun | 56 => some <| .plain ⟨.d (.str (itoaS x.n)), true⟩ | _ => none) ?_
     simp
     refine ⟨by (repeat' with_reducible apply And.intro) <;> first | omega | exact ci, ?_⟩
     refine LWp.sz hT hW ?_
     simp
     refine ⟨by omega, ?_⟩
     refine LWp.ret ?_
     simp [textT, q5, h6, h14]
    ·refine LWp.sz hT hW ?_
     simp
     refine LWp.iff ?_
     simp
     refine ⟨fun h16 => ?_, fun h16 => ?_⟩
     ·have hd17 : 0 ≤ x.n ∧ x.n ≤ 3 := by
       rcases hd with ⟨h | h, _⟩ | ⟨h, _⟩ | ⟨h, _⟩ | ⟨_, _, h⟩ | ⟨h | h, _⟩ <;> omega
      have ci := Itoa_ok x.n (by omega) (by omega)
      refine LWp.ro hT hW (fun | 64 => some <| .plain ⟨.d (.str (itoaS x.n)), true⟩ | _ => none) ?_
      simp
      refine ⟨by (repeat' with_reducible apply And.intro) <;> first | omega | exact ci, ?_⟩
      refine LWp.sz hT hW ?_
      simp
      refine ⟨by omega, ?_⟩
      refine LWp.ret ?_
      simp [textT, q5, h6, h14, h16]
     ·refine LWp.skip ?_
      simp
      refine LWp.sz hT hW ?_
      simp
      refine ⟨by omega, ?_⟩
      refine LWp.ret ?_
      simp [textT, q5, h6, h14, h16]
end
open Go.Proofs
section
attribute [local simp] Res.cond Nd.d_eq nd_t nd_dr nd_td ndsD evalIndex
theorem letterB_eq (c : UInt8) : letterB c = (decide (97 ≤ (c.toNat : Int)) && decide ((c.toNat : Int) ≤ 122)) := by
 unfold letterB
 congr 1 <;> (rw [decide_eq_decide, UInt8.le_iff_toNat_le]; exact ⟨fun h => by have : (97 : UInt8).toNat = 97 := rfl; have : (122 : UInt8).toNat = 122 := rfl; omega, fun h => by have : (97 : UInt8).toNat = 97 := rfl; have : (122 : UInt8).toNat = 122 := rfl; omega⟩)
theorem digitB_eq (c : UInt8) : digitB c = (decide (48 ≤ (c.toNat : Int)) && decide ((c.toNat : Int) ≤ 57)) := by
 unfold digitB
 congr 1 <;> (rw [decide_eq_decide, UInt8.le_iff_toNat_le]; exact ⟨fun h => by have : (48 : UInt8).toNat = 48 := rfl; have : (57 : UInt8).toNat = 57 := rfl; omega, fun h => by have : (48 : UInt8).toNat = 48 := rfl; have : (57 : UInt8).toNat = 57 := rfl; omega⟩)
theorem letter_ok (c : UInt8) : Ok Tryz.prog 107 [.int .u8 (c.toNat : Int)] ⟨.d (.bool (letterB c)), true⟩ := by
 refine Ok.ret Tryz.func107 (by kernel_rfl) (c := _) rfl Tryz.ntmps107 (by simp) Tryz.results107 (by intro _ h; cases h) fun w0 X hp => ?_
 refine LWp.sz hT hW ?_
 simp
 refine LWp.sz hT hW ?_
 simp
 refine LWp.ret ?_
 simp [letterB_eq]
theorem digit_ok (c : UInt8) : Ok Tryz.prog 109 [.int .u8 (c.toNat : Int)] ⟨.d (.bool (digitB c)), true⟩ := by
 refine Ok.ret Tryz.func109 (by kernel_rfl) (c := _) rfl Tryz.ntmps109 (by simp) Tryz.results109 (by intro _ h; cases h) fun w0 X hp => ?_
 refine LWp.sz hT hW ?_
 simp
 refine LWp.sz hT hW ?_
 simp
 refine LWp.ret ?_
 simp [digitB_eq]
theorem run_ok (s : Str) (p : UInt8 → Bool) (g : FuncId) (hg : ∀ c : UInt8, Ok Tryz.prog g [.int .u8 (c.toNat : Int)] ⟨.d (.bool (p c)), true⟩) (hl : s.length ≤ 9223372036854775807) : Ok Tryz.prog 110 [.str s, .fn g []] ⟨.d (I64 (runP p s)), true⟩ := by
 refine Ok.ret Tryz.func110 (by kernel_rfl) (c := _) rfl Tryz.ntmps110 (by simp) Tryz.results110 (by intro _ h; cases h) fun w0 X hp => ?_
 refine LWp.sz hT hW ?_
 simp
 refine LWp.sz hT hW ?_
 simp
 refine LWp.seq ?_
 refine LWp.block ?_
 refine LWp.loopW (ι := Nat) (fun i => mkEnv [(0, .d (.str s)), (1, .d (.fn g [])), (5, .d (I64 i))]) (fun i => mkObs []) (fun i => i ≤ s.length ∧ ∀ (j : Nat) (h : j < s.length), j < i → p s[j] = true) (fun i => s.length - i) 0 (Weak.to [0, 1, 5] [] (by decide) (by decide) (by simp [hp]) (by simp) (by simp)) (⟨Nat.zero_le _, fun j _ h => absurd h (Nat.not_lt_zero _)⟩) fun i hi2 => ?_
 refine LWp.seq ?_
 refine LWp.seq ?_
 have hc := hg (s.getD i 0)
 refine LWp.ro hT hW (fun | 15 => some <| .plain ⟨.d (.bool (p (s.getD i 0))), true⟩ | _ => none) ?_
 simp [evalCallee]
 refine ⟨fun _ => by simpa using hc, ?_⟩
 refine LWp.iff ?_
 simp
 refine ⟨fun g1 g2 => ?_, fun g => ?_⟩
 ·refine LWp.skip ?_
  simp
  refine LWp.block ?_
  refine LWp.rz hT hW ?_
  simp
  refine ⟨by omega, ?_⟩
  refine loopQ.mk (i + 1) (Weak.to [0, 1, 5] [] (by decide) (by decide) (by simp [hp]) (by simp) (by simp)) ?_ ?_
  ·refine ⟨by omega, fun j hj q => ?_⟩
   rcases Nat.lt_or_ge j i with q' | q'
   ·exact hi2.2 j hj q'
   ·have : j = i := by omega
    subst this
    simpa [g1] using g2
  ·omega
 ·refine LWp.exit ?_
  simp
  refine LWp.sz hT hW ?_
  simp
  refine LWp.ret ?_
  simp
  have hr := runP_eq (p := p) (s := s) hi2.1 (fun j hj => hi2.2 j (by omega) hj) (fun hl => by
   have := g hl
   simpa [hl] using this)
  omega
theorem word1_ok (c : UInt8) : Ok Tryz.prog 136 [.int .u8 (c.toNat : Int)] ⟨.d (.bool (letterB c || digitB c)), true⟩ := by
 refine Ok.ret Tryz.func136 (by kernel_rfl) (c := _) rfl Tryz.ntmps136 (by simp) Tryz.results136 (by intro _ h; cases h) fun w0 X hp => ?_
 refine LWp.sz hT hW ?_
 simp
 refine LWp.so hT hW (fun | 4 => some <| .plain ⟨.d (.bool (letterB c)), true⟩ | 7 => some <| .plain ⟨.d (.bool (digitB c)), true⟩ | _ => none) ?_
 simp
 refine ⟨⟨letter_ok c, fun _ => digit_ok c⟩, ?_⟩
 refine LWp.ret ?_
 simp
theorem wordN_run (s : Str) : wordN s = if s = [] ∨ letterB (s[0]?.getD 0) = false then 0 else if 16 < runP (fun c => letterB c || digitB c) s then 0 else runP (fun c => letterB c || digitB c) s := by
 cases s with
 | nil => rfl
 | cons c r =>
  have e : ((c :: r)[0]?.getD 0) = c := rfl
  rw [e]
  unfold wordN
  generalize runP (fun c => letterB c || digitB c) (c :: r) = n
  by_cases q : letterB c = true
  ·simp only [q, if_true]
   by_cases h : n ≤ 16
   ·simp [h, show ¬ 16 < n by omega]
   ·simp [h, show 16 < n by omega]
  ·simp [q]
theorem word_ok (s : Str) (hl : s.length ≤ 9223372036854775807) : Ok Tryz.prog 108 [.str s] ⟨.d (I64 (wordN s)), true⟩ := by
 refine Ok.ret Tryz.func108 (by kernel_rfl) (c := _) rfl Tryz.ntmps108 (by simp) Tryz.results108 (by intro _ h; cases h) fun w0 X hp => ?_
 refine LWp.sz hT hW ?_
 simp
 refine LWp.seq ?_
 refine LWp.so hT hW (fun | 9 => some <| .plain ⟨.d (.bool (letterB (s.getD 0 0))), true⟩ | _ => none) ?_
 simp
 refine ⟨⟨fun h => List.length_pos_iff.2 h, fun _ => letter_ok _⟩, ?_⟩
 refine LWp.iff ?_
 simp
 refine ⟨fun g => ?_, fun g1 g2 => ?_⟩
 ·refine LWp.sz hT hW ?_
  simp
  refine LWp.ret ?_
  simp
  rw [wordN_run, if_pos g]
  rfl
 ·refine LWp.skip ?_
  simp
  refine LWp.seq ?_
  have hr := run_ok s (fun c => letterB c || digitB c) 136 (fun c => word1_ok c) hl
  refine LWp.ro hT hW (fun | 13 => some <| .plain ⟨.d (I64 (runP (fun c => letterB c || digitB c) s)), true⟩ | _ => none) ?_
  simp
  refine ⟨by simpa using hr, ?_⟩
  refine LWp.seq ?_
  refine LWp.sz hT hW ?_
  simp
  refine LWp.iff ?_
  simp
  refine ⟨fun h4 => ?_, fun h4 => ?_⟩
  ·refine LWp.sz hT hW ?_
   simp
   refine LWp.ret ?_
   simp
   rw [wordN_run, if_neg, if_pos (by omega)]
   ·rfl
   intro q
   rcases q with q | q
   ·exact g1 (by simpa using q)
   ·simp [q] at g2
  ·refine LWp.skip ?_
   simp
   refine LWp.sz hT hW ?_
   simp
   refine LWp.ret ?_
   simp
   rw [wordN_run, if_neg, if_neg (by omega)]
   intro q
   rcases q with q | q
   ·exact g1 (by simpa using q)
   ·simp [q] at g2
theorem glob0_take : List.take 26 glob0 = wordsL.map DV.str := rfl
theorem reserved_ok (s : Str) : Ok Tryz.prog 139 [.str s] ⟨.d (.bool (reservedB s)), true⟩ := by
 refine Ok.ret Tryz.func139 (by kernel_rfl) (c := _) rfl Tryz.ntmps139 (by simp) Tryz.results139 (by intro _ h; cases h) fun w0 X hp => ?_
 refine LWp.sz hT hW ?_
 simp
 refine LWp.seq ?_
 have hi := InStr_ok wordsL s
 have q2 := glob0_len
 refine LWp.ro hT hW (fun | 12 => some <| .plain ⟨.d (.bool (decide (s ∈ wordsL))), true⟩ | _ => none) ?_
 simp [glob0_take]
 refine ⟨⟨fun _ _ => by omega, fun _ _ => hi⟩, ?_⟩
 refine LWp.ret ?_
 simp
 show _ = (decide (s = [101, 108, 115, 101]) || decide (s = [107, 105, 110, 100]) || decide (s ∈ wordsL))
 simp only [Bool.beq_eq_decide_eq]
theorem isName_ok (s : Str) : Ok Tryz.prog 113 [.str s] ⟨.d (.bool (isNameB s)), true⟩ := by
 refine Ok.ret Tryz.func113 (by kernel_rfl) (c := _) rfl Tryz.ntmps113 (by simp) Tryz.results113 (by intro _ h; cases h) fun w0 X hp => ?_
 refine LWp.sz hT hW ?_
 simp
 refine LWp.so hT hW (fun | 8 => some <| .plain ⟨.d (.bool (letterB (s.getD 0 0))), true⟩ | 12 => some <| .plain ⟨.d (.bool (reservedB s)), true⟩ | _ => none) ?_
 simp
 refine ⟨⟨⟨fun h => List.length_pos_iff.2 h, fun _ => letter_ok _⟩, fun _ _ => reserved_ok s⟩, ?_⟩
 refine LWp.ret ?_
 cases s <;> simp [isNameB]
theorem whole_ok (s : Str) (b : Bool) (hl : s.length ≤ 9223372036854775807) : Ok Tryz.prog 98 [.str s, .bool b] ⟨.d (.bool (wholeB s b)), true⟩ := by
 refine Ok.ret Tryz.func98 (by kernel_rfl) (c := _) rfl Tryz.ntmps98 (by simp) Tryz.results98 (by intro _ h; cases h) fun w0 X hp => ?_
 refine LWp.sz hT hW ?_
 simp
 refine LWp.so hT hW (fun | 9 => some <| .plain ⟨.d (I64 (wordN s)), true⟩ | 19 => some <| .plain ⟨.d (.bool (isNameB s)), true⟩ | _ => none) ?_
 simp
 refine ⟨⟨⟨fun _ => word_ok s hl, fun _ _ _ => isName_ok s⟩, fun h1 h2 h3 => ⟨⟨h1, h2⟩, h3⟩⟩, ?_⟩
 refine LWp.ret ?_
 simp
 rw [Bool.eq_iff_iff]
 simp [wholeB]
 intro _ _
 omega
end
end Go.Eng
namespace Go.Proofs
open Go.Shelf
def Tryz.idxLay_ren : Go.Shelf.Ren := ⟨fun | 217 => 138 | 266 => 160 | n => n, fun | 9 => 9 | 5 => 5 | 3 => 3 | n => n, fun | n => n⟩
theorem Tryz.idxLay : Go.Proofs.Lays.n217 Tryz.prog Tryz.idxLay_ren := {
  mixed := by kernel_rfl,
  f217 := Tryz.func138.trans (congrArg some (by kernel_rfl)),
  f266 := Tryz.func160.trans (congrArg some (by kernel_rfl)),
  t3 := Tryz.underlying3,
  a3 := Tryz.isAgg3,
  z3 := Tryz.sizeOf3,
  v3 := Tryz.zeroValue3,
  t5 := Tryz.underlying5,
  a5 := Tryz.isAgg5,
  z5 := Tryz.sizeOf5,
  v5 := Tryz.zeroValue5,
  t9 := Tryz.underlying9,
  a9 := Tryz.isAgg9,
  z9 := Tryz.sizeOf9,
  v9 := Tryz.zeroValue9 }
end Go.Proofs
namespace Go.Eng
open Go.Proofs
attribute [local simp] runL stepL evalG evalOp opLV constLV putEnv dstOk upd upds Res.plain Res.cond Res.fail evalBin evalUn seqQ blockQ argsEnv lookL lookH RetIs memless freshL evalPick evalMin bval bok evalLen evalIn strip whenC guardOps guardC slotsOf
 runM foldS stepI stepM maskE wrIn lk renO lookN evalCall evalCallee optAll resLV resObj retLV retObj retsLV retsObj evalLoad evalIndexAddr evalField solid cellsD_agg cellsD_int cellsD_bool cellsD_str cellsD_sl cellsD_ro cellsD_fn cellsL_agg cellsL_dagg cellsL_int cellsL_bool cellsL_str cellsL_sl cellsL_fn cellsL_ow cellsL_bx cellsL_lfn cellsL_nl takeL takeD mkAgg allD eqD eqDs kindsAre kindIs LObj.live TK.isNone TK.agg TK.isBool TK.isStr TK.isStruct Op.operands Call.operands
 evalBuildSlice evalAppend elemsOf evalStore evalBuild fillL lookupF putL evalSlice bound evalConv elemsS freezes frozen loadR
 mkEnv_at mkObs_at close_d close_agg close_ow close_bx close_fn close_nl touch_d touch_agg touch_ow touch_bx touch_fn touch_nl ren_d ren_agg ren_bx ren_rp ren_ow ren_fn ren_nl ren_junk retQ_ret retQ2_ret condQ_bool Nm.d Df.d Ed.d nmsD dfsD strsD edsD retC_ret nm_eq df_eq take_map_len take_map_app
 nm_t nm_d nm_td df_t df_d df_td str_t str_d str_td ed_t ed_d ed_td
 evalAppendIn evalBuildSliceC evalCopyC shortL evalApart evalAppendC evalAppendZ evalAppendG evalCapC isOc TK.isInt close_oc touch_oc ren_oc cellsL_oc evalCut evalClear evalCopy evalMake evalWrap evalCap evalNil isNilC lenL isInp gorc gorc2
 mapOf findD keyEq keyOk evalMakeMap evalRange zeroD zeroDV argsG shutG outN lenv retG0_ret retG0_normal retG1_ret retGR_ret renO close_mp touch_mp ren_mp optAll_d optAll_d' touch_ds cellsL_mp cellsD_mp cellsL_dmp
 evalMapSet evalPtr TK.isPtr evalToArr firstL retN_ret retsQ rvarL close_bm touch_bm ren_bm cellsD_bm cellsL_bm cellsL_lbm
attribute [local simp] cutQ_normal cutQ_ret cutQ_exit
section
attribute [local simp] Res.cond Nd.d_eq nd_t nd_dr nd_td ndsD evalIndex
def idxC (c : UInt8) (s : Str) : Int := match cutAt c s with | some q => q.1.length | none => -1
theorem idx_lib (c : UInt8) : ∀ s : Str, Lib.indexByte s c = idxC c s
 | [] => rfl
 | d :: r => by
  have ih := idx_lib c r
  unfold Lib.indexByte idxC cutAt
  unfold idxC at ih
  by_cases h : d = c
  ·simp [h]
  ·rw [if_neg h]
   rw [if_neg (by simpa using h)]
   rw [ih]
   cases cutAt c r with
   | none => simp
   | some q =>
    simp only [Option.map_some, List.length_cons]
    rw [if_neg (by simp)]
    rfl
theorem cut_parts {c : UInt8} {s : Str} {q : Str × Str} (h : cutAt c s = some q) : s.take q.1.length = q.1 ∧ s.drop (q.1.length + 1) = q.2 ∧ q.1.length + 1 + q.2.length = s.length := by
 have e := cutAt_eq (a := q.1) (b := q.2) h
 rw [e]
 refine ⟨by simp, ?_, by simp; omega⟩
 rw [show q.1.length + 1 = (q.1 ++ [c]).length by simp, show q.1 ++ c :: q.2 = (q.1 ++ [c]) ++ q.2 by simp, List.drop_left]
theorem IndexByte_ok (s : Str) (c : UInt8) : Ok Tryz.prog 138 [.str s, .int .u8 (c.toNat : Int)] ⟨.d (I64 (idxC c s)), true⟩ := by
 refine ⟨⟨_, Tryz.func138, by kernel_rfl, rfl⟩, fun w X vs hX hr => ?_⟩
 match vs, hr.1 with
 | [u, v], _ =>
  have h1 := hr.2 0 _ _ rfl rfl
  have h2 := hr.2 1 _ _ rfl rfl
  cases h1; cases h2
  refine (Go.Proofs.Any.stringslite_IndexByte Tryz.idxLay ⟨s.toArray⟩ (c.toNat : Int) w).mono ?_
  rintro e w' ⟨rfl, rfl⟩
  refine ⟨_, rfl, Bel.refl _ _, none, ?_⟩
  have e : ((c.toNat : Int).toNat.toUInt8) = c := by simp
  rw [e]
  simp only []
  rw [idx_lib]
  exact .int _ _
theorem Index1_ok (s : Str) (c : UInt8) (hl : s.length ≤ 9223372036854775807) : Ok Tryz.prog 154 [.str s, .str [c]] ⟨.d (I64 (idxC c s)), true⟩ := by
 refine Ok.ret Tryz.func154 (by kernel_rfl) (c := _) rfl Tryz.ntmps154 (by simp) Tryz.results154 (by intro _ h; cases h) fun w0 X hp => ?_
 refine LWp.sz hT hW ?_
 simp
 refine LWp.sz hT hW ?_
 simp
 refine LWp.seq ?_
 refine LWp.block ?_
 refine LWp.sz hT hW ?_
 simp
 refine LWp.iff ?_
 simp
 refine ⟨fun g => ?_, fun g => ?_⟩
 ·refine LWp.sz hT hW ?_
  simp
  refine LWp.ret ?_
  simp [← g, idxC, cutAt]
 ·refine LWp.sz hT hW ?_
  simp
  refine LWp.iff ?_
  simp
  refine LWp.seq ?_
  have hi := IndexByte_ok s c
  refine LWp.ro hT hW (fun | 30 => some <| .plain ⟨.d (I64 (idxC c s)), true⟩ | _ => none) ?_
  simp
  refine ⟨hi, ?_⟩
  refine LWp.ret ?_
  simp
def cutA (c : UInt8) (s : Str) : Str := match cutAt c s with | some q => q.1 | none => s
def cutB (c : UInt8) (s : Str) : Str := match cutAt c s with | some q => q.2 | none => []
def cutOk (c : UInt8) (s : Str) : Bool := (cutAt c s).isSome
theorem sCut_ok (s : Str) (c : UInt8) (hl : s.length ≤ 9223372036854775807) : Ok Tryz.prog 132 [.str s, .str [c]] ⟨.tup [.d (.str (cutA c s)), .d (.str (cutB c s)), .d (.bool (cutOk c s))], true⟩ := by
 refine Ok.many hT Tryz.func132 (by kernel_rfl) (c := _) rfl Tryz.ntmps132 (by simp) Tryz.results132 (by simp) (by rfl) fun w0 X hp => ?_
 refine LWp.sz hT hW ?_
 simp
 refine LWp.seq ?_
 refine LWp.seq ?_
 have hi := Index1_ok s c hl
 refine LWp.ro hT hW (fun | 10 => some <| .plain ⟨.d (I64 (idxC c s)), true⟩ | _ => none) ?_
 simp
 refine ⟨hi, ?_⟩
 refine LWp.sz hT hW ?_
 simp
 refine LWp.iff ?_
 simp
 refine ⟨fun h2 => ?_, fun h2 => ?_⟩
 ·refine LWp.seq ?_
  obtain ⟨q, hq⟩ : ∃ q, cutAt c s = some q := by
   unfold idxC at h2
   cases e : cutAt c s with
   | none => rw [e] at h2; simp at h2
   | some q => exact ⟨q, rfl⟩
  have hx : idxC c s = (q.1.length : Int) := by unfold idxC; rw [hq]
  obtain ⟨p1, p2, p3⟩ := cut_parts hq
  refine LWp.regAny hT hW hMixed (lk [[],[],[0,1],[],[],[],[5],[4,5,6],[3,4,5,6,7],[0,1,2],[0,1,2,3,4,5,6,7,8,9],[0,1,2,3,4,5,6,7,8,9,10]]) (lk [[],[],[],[],[],[],[],[],[],[],[],[]]) (lk [[],[],[],[],[],[],[],[],[],[],[],[]]) (by kernel_rfl) (fun _ => none) (fun _ => ⟨rfl, fun _ h => h⟩) ?_
  simp [hx, p1, p2]
  refine ⟨⟨⟨by omega, by omega, by omega⟩, by omega, by omega⟩, ?_⟩
  refine LWp.ret ?_
  simp [cutA, cutB, cutOk, hq]
 ·refine LWp.skip ?_
  simp
  refine LWp.sz hT hW ?_
  simp
  refine LWp.ret ?_
  have hn : cutAt c s = none := by
   unfold idxC at h2
   cases e : cutAt c s with
   | none => rfl
   | some q => rw [e] at h2; simp at h2; omega
  simp [cutA, cutB, cutOk, hn]
theorem Cut_ok (s : Str) (c : UInt8) (hl : s.length ≤ 9223372036854775807) : Ok Tryz.prog 99 [.str s, .str [c]] ⟨.tup [.d (.str (cutA c s)), .d (.str (cutB c s)), .d (.bool (cutOk c s))], true⟩ := by
 refine Ok.many hT Tryz.func99 (by kernel_rfl) (c := _) rfl Tryz.ntmps99 (by simp) Tryz.results99 (by simp) (by rfl) fun w0 X hp => ?_
 refine LWp.sz hT hW ?_
 simp
 refine LWp.seq ?_
 have hi := sCut_ok s c hl
 refine LWp.ro hT hW (fun | 9 => some <| .plain ⟨.tup [.d (.str (cutA c s)), .d (.str (cutB c s)), .d (.bool (cutOk c s))], true⟩ | _ => none) ?_
 simp [evalExtract]
 refine ⟨hi, ?_⟩
 refine LWp.ret ?_
 simp
end
open Go.Proofs
section
attribute [local simp] Res.cond Nd.d_eq nd_t nd_dr nd_td ndsD
theorem isEmpty_dec (l : Str) : l.isEmpty = decide (l = []) := by cases l <;> simp
def bndD (l : List (Int × Int)) : List DV := l.flatMap fun p => [I64 p.1, I64 p.2]
theorem glob1_eq : glob1 = bndD boundsL := by kernel_rfl
theorem glob1_len : glob1.length = 74 := by kernel_rfl
theorem bndD_at : ∀ (l : List (Int × Int)) (k : Nat), k < l.length → (bndD l)[k * 2]?.getD default = I64 (l.getD k (0, 0)).1 ∧ (bndD l)[k * 2 + 1]?.getD default = I64 (l.getD k (0, 0)).2
 | p :: l, 0, _ => ⟨rfl, rfl⟩
 | p :: l, k + 1, h => by
  have ih := bndD_at l k (by simpa using h)
  have e : bndD (p :: l) = I64 p.1 :: I64 p.2 :: bndD l := rfl
  rw [e, show (k + 1) * 2 = k * 2 + 1 + 1 by omega]
  exact ih
theorem glob1_lo {k : Int} (h : 0 ≤ k ∧ k < 37) : glob1[k.toNat * 2]?.getD default = I64 (loAt k) := by
 rw [glob1_eq]; exact (bndD_at boundsL k.toNat (by rw [bounds_len]; omega)).1
theorem glob1_hi {k : Int} (h : 0 ≤ k ∧ k < 37) : glob1[k.toNat * 2 + 1]?.getD default = I64 (hiAt k) := by
 rw [glob1_eq]; exact (bndD_at boundsL k.toNat (by rw [bounds_len]; omega)).2
theorem cutA_len (c : UInt8) (s : Str) : (cutA c s).length ≤ s.length := by
 unfold cutA
 cases h : cutAt c s with
 | none => simp
 | some q => have := cut_parts h; simp; omega
theorem cutB_len (c : UInt8) (s : Str) : (cutB c s).length ≤ s.length := by
 unfold cutB
 cases h : cutAt c s with
 | none => simp
 | some q => have := cut_parts h; simp; omega
theorem fieldB_eq (t : Str) : fieldB t = (cutOk 46 t && wholeB (cutA 46 t) true && wholeB (cutB 46 t) true) := by
 unfold fieldB cutOk cutA cutB
 cases cutAt 46 t with
 | none => rfl
 | some q => rfl
theorem worded_ok (x : Nd) (hk : 0 ≤ x.kind ∧ x.kind < 37) (hl : x.text.length ≤ 9223372036854775807) : Ok Tryz.prog 62 [x.d] ⟨.d (.bool (wordedB x)), true⟩ := by
 refine Ok.ret Tryz.func62 (by kernel_rfl) (c := _) rfl Tryz.ntmps62 (by simp) Tryz.results62 (by intro _ h; cases h) fun w0 X hp => ?_
 refine LWp.sz hT hW ?_
 simp
 refine LWp.seq ?_
 refine LWp.seq ?_
 have hg1 := glob1_lo hk
 have hg2 := glob1_hi hk
 have hg3 := glob1_len
 refine LWp.regAny hT hW hMixed (lk [[],[0],[],[2],[2,3],[2,3,4],[2,3,4,5],[0,1,2,3,4,5,6],[0,1,2,3,4,5,6,7],[0,1,2,3,4,5,6,7,8],[0,1,2,3,4,5,6,7,8,9],[0,1,2,3,4,5,6,7,8],[0,1,2,3,4,5,6,7,8,11],[0,1,2,3,4,5,6,7,8,11,12],[0,1,2,3,4,5,6,7,8,11,12,13],[0,1,2,3,4,5,6,7,8,11,12,13,14],[0,1,2,3,4,5,6,7,8,9,10,11,12,13,14,15],[0,1,2,3,4,5,6,7,8,9,10,11,12,13,14,15,16]]) (lk [[],[],[],[],[],[],[],[],[],[],[],[],[],[],[],[],[],[]]) (lk [[],[],[],[],[],[],[],[],[],[],[],[],[],[],[],[],[],[]]) (by kernel_rfl) (fun _ => none) (fun _ => ⟨rfl, fun _ h => h⟩) ?_
 simp [hg1, hg2]
 refine ⟨⟨⟨⟨hk, by omega⟩, fun _ => hk⟩, fun _ => by omega⟩, ?_⟩
 refine LWp.iff ?_
 simp
 refine ⟨fun g => ?_, fun g1 g2 => ?_⟩
 ·refine LWp.sz hT hW ?_
  simp
  refine LWp.ret ?_
  simp
  unfold wordedB wordedK
  rw [Bool.eq_false_iff]
  intro h
  simp only [Bool.and_eq_true, decide_eq_true_eq] at h
  omega
 ·refine LWp.skip ?_
  simp
  refine LWp.seq ?_
  refine LWp.sz hT hW ?_
  simp
  refine LWp.block ?_
  refine LWp.seqCut (ι := BC) (fun ⟨b⟩ => mkEnv [(1, .bx 1 0), (25, .d (I64 x.kind)), (26, .d (.bool b))]) (fun ⟨b⟩ => mkObs [(1, .box false [.d (I64 x.kind), .d (.str x.text), .d (I64 x.n), .d (ndsD x.kids)])]) (fun ⟨b⟩ => b = true ↔ (x.kind = 9 ∨ x.kind = 19 ∨ x.kind = 20 ∨ x.kind = 33)) ?_ fun ⟨b⟩ hc8 => ?_
  ·refine LWp.sz hT hW ?_
   simp
   refine LWp.iff ?_
   simp
   refine ⟨fun h4 => ?_, fun h4 => ?_⟩
   ·refine LWp.skip ?_
    simp
    refine cutQ.mk ⟨decide (x.kind = 9)⟩ (Weak.to [1, 25, 26] [(1, 1)] (by decide) (by decide) (by simp [hp]) (by simp) (by simp)) ?_
    simp [h4]
   ·refine LWp.sz hT hW ?_
    simp
    refine LWp.iff ?_
    simp
    refine ⟨fun h5 => ?_, fun h5 => ?_⟩
    ·refine LWp.skip ?_
     simp
     refine cutQ.mk ⟨decide (x.kind = 19)⟩ (Weak.to [1, 25, 26] [(1, 1)] (by decide) (by decide) (by simp [hp]) (by simp) (by simp)) ?_
     simp [h5]
    ·refine LWp.sz hT hW ?_
     simp
     refine LWp.iff ?_
     simp
     refine ⟨fun h6 => ?_, fun h6 => ?_⟩
     ·refine LWp.skip ?_
      simp
      refine cutQ.mk ⟨decide (x.kind = 20)⟩ (Weak.to [1, 25, 26] [(1, 1)] (by decide) (by decide) (by simp [hp]) (by simp) (by simp)) ?_
      simp [h6]
     ·refine LWp.rz hT hW ?_
      simp
      refine cutQ.mk ⟨decide (x.kind = 33)⟩ (Weak.to [1, 25, 26] [(1, 1)] (by decide) (by decide) (by simp [hp]) (by simp) (by simp)) ?_
      simp only [decide_eq_true_eq]; omega
  ·refine LWp.iff ?_
   simp
   refine ⟨fun h8 => ?_, fun h8 => ?_⟩
   ·have q8 := hc8.1 h8
    refine LWp.seq ?_
    have hw := whole_ok x.text false hl
    refine LWp.ro hT hW (fun | 33 => some <| .plain ⟨.d (.bool (wholeB x.text false)), true⟩ | _ => none) ?_
    simp
    refine ⟨hw, ?_⟩
    refine LWp.ret ?_
    simp
    unfold wordedB wordedK textB
    simp only [g1, g2, decide_true, Bool.true_and]
    repeat (first | rw [if_pos (by omega)] | rw [if_neg (by omega)])
    try rw [fieldB_eq]
    try simp
    try exact isEmpty_dec _
   ·have q8 : ¬ (x.kind = 9 ∨ x.kind = 19 ∨ x.kind = 20 ∨ x.kind = 33) := fun q => by simp [hc8.2 q] at h8
    refine LWp.sz hT hW ?_
    simp
    refine LWp.iff ?_
    simp
    refine ⟨fun h9 => ?_, fun h9 => ?_⟩
    ·refine LWp.seq ?_
     have hc := Cut_ok x.text 46 hl
     refine LWp.ro hT hW (fun | 39 => some <| .plain ⟨.tup [.d (.str (cutA 46 x.text)), .d (.str (cutB 46 x.text)), .d (.bool (cutOk 46 x.text))], true⟩ | _ => none) ?_
     simp [evalExtract]
     refine ⟨hc, ?_⟩
     refine LWp.seq ?_
     have hw1 := whole_ok (cutA 46 x.text) true (by have := cutA_len 46 x.text; omega)
     have hw2 := whole_ok (cutB 46 x.text) true (by have := cutB_len 46 x.text; omega)
     refine LWp.ro hT hW (fun | 46 => some <| .plain ⟨.d (.bool (wholeB (cutA 46 x.text) true)), true⟩ | 50 => some <| .plain ⟨.d (.bool (wholeB (cutB 46 x.text) true)), true⟩ | _ => none) ?_
     simp
     refine ⟨⟨fun _ => hw1, fun _ _ => hw2⟩, ?_⟩
     refine LWp.ret ?_
     simp
     unfold wordedB wordedK textB
     simp only [g1, g2, decide_true, Bool.true_and]
     repeat (first | rw [if_pos (by omega)] | rw [if_neg (by omega)])
     try rw [fieldB_eq]
     try simp
     try exact isEmpty_dec _
    ·refine LWp.seqCut (ι := BC) (fun ⟨b⟩ => mkEnv [(1, .bx 1 0), (25, .d (I64 x.kind)), (52, .d (.bool b))]) (fun ⟨b⟩ => mkObs [(1, .box false [.d (I64 x.kind), .d (.str x.text), .d (I64 x.n), .d (ndsD x.kids)])]) (fun ⟨b⟩ => b = true ↔ (x.kind = 8 ∨ x.kind = 10 ∨ x.kind = 11 ∨ x.kind = 12 ∨ x.kind = 21 ∨ x.kind = 24 ∨ x.kind = 25 ∨ x.kind = 26 ∨ x.kind = 27 ∨ x.kind = 28 ∨ x.kind = 29 ∨ x.kind = 30 ∨ x.kind = 31 ∨ x.kind = 32 ∨ x.kind = 36)) ?_ fun ⟨b⟩ hc27 => ?_
     ·refine LWp.sz hT hW ?_
      simp
      refine LWp.iff ?_
      simp
      refine ⟨fun h12 => ?_, fun h12 => ?_⟩
      ·refine LWp.skip ?_
       simp
       refine cutQ.mk ⟨decide (x.kind = 8)⟩ (Weak.to [1, 25, 52] [(1, 1)] (by decide) (by decide) (by simp [hp]) (by simp) (by simp)) ?_
       simp [h12]
      ·refine LWp.sz hT hW ?_
       simp
       refine LWp.iff ?_
       simp
       refine ⟨fun h13 => ?_, fun h13 => ?_⟩
       ·refine LWp.skip ?_
        simp
        refine cutQ.mk ⟨decide (x.kind = 10)⟩ (Weak.to [1, 25, 52] [(1, 1)] (by decide) (by decide) (by simp [hp]) (by simp) (by simp)) ?_
        simp [h13]
       ·refine LWp.sz hT hW ?_
        simp
        refine LWp.iff ?_
        simp
        refine ⟨fun h14 => ?_, fun h14 => ?_⟩
        ·refine LWp.skip ?_
         simp
         refine cutQ.mk ⟨decide (x.kind = 11)⟩ (Weak.to [1, 25, 52] [(1, 1)] (by decide) (by decide) (by simp [hp]) (by simp) (by simp)) ?_
         simp [h14]
        ·refine LWp.sz hT hW ?_
         simp
         refine LWp.iff ?_
         simp
         refine ⟨fun h15 => ?_, fun h15 => ?_⟩
         ·refine LWp.skip ?_
          simp
          refine cutQ.mk ⟨decide (x.kind = 12)⟩ (Weak.to [1, 25, 52] [(1, 1)] (by decide) (by decide) (by simp [hp]) (by simp) (by simp)) ?_
          simp [h15]
         ·refine LWp.sz hT hW ?_
          simp
          refine LWp.iff ?_
          simp
          refine ⟨fun h16 => ?_, fun h16 => ?_⟩
          ·refine LWp.skip ?_
           simp
           refine cutQ.mk ⟨decide (x.kind = 21)⟩ (Weak.to [1, 25, 52] [(1, 1)] (by decide) (by decide) (by simp [hp]) (by simp) (by simp)) ?_
           simp [h16]
          ·refine LWp.sz hT hW ?_
           simp
           refine LWp.iff ?_
           simp
           refine ⟨fun h17 => ?_, fun h17 => ?_⟩
           ·refine LWp.skip ?_
            simp
            refine cutQ.mk ⟨decide (x.kind = 24)⟩ (Weak.to [1, 25, 52] [(1, 1)] (by decide) (by decide) (by simp [hp]) (by simp) (by simp)) ?_
            simp [h17]
           ·refine LWp.sz hT hW ?_
            simp
            refine LWp.iff ?_
            simp
            refine ⟨fun h18 => ?_, fun h18 => ?_⟩
            ·refine LWp.skip ?_
             simp
             refine cutQ.mk ⟨decide (x.kind = 25)⟩ (Weak.to [1, 25, 52] [(1, 1)] (by decide) (by decide) (by simp [hp]) (by simp) (by simp)) ?_
             simp [h18]
            ·refine LWp.sz hT hW ?_
             simp
             refine LWp.iff ?_
             simp
             refine ⟨fun h19 => ?_, fun h19 => ?_⟩
             ·refine LWp.skip ?_
              simp
              refine cutQ.mk ⟨decide (x.kind = 26)⟩ (Weak.to [1, 25, 52] [(1, 1)] (by decide) (by decide) (by simp [hp]) (by simp) (by simp)) ?_
              simp [h19]
             ·refine LWp.sz hT hW ?_
              simp
              refine LWp.iff ?_
              simp
              refine ⟨fun h20 => ?_, fun h20 => ?_⟩
              ·refine LWp.skip ?_
               simp
               refine cutQ.mk ⟨decide (x.kind = 27)⟩ (Weak.to [1, 25, 52] [(1, 1)] (by decide) (by decide) (by simp [hp]) (by simp) (by simp)) ?_
               simp [h20]
              ·refine LWp.sz hT hW ?_
               simp
               refine LWp.iff ?_
               simp
               refine ⟨fun h21 => ?_, fun h21 => ?_⟩
               ·refine LWp.skip ?_
                simp
                refine cutQ.mk ⟨decide (x.kind = 28)⟩ (Weak.to [1, 25, 52] [(1, 1)] (by decide) (by decide) (by simp [hp]) (by simp) (by simp)) ?_
                simp [h21]
               ·refine LWp.sz hT hW ?_
                simp
                refine LWp.iff ?_
                simp
                refine ⟨fun h22 => ?_, fun h22 => ?_⟩
                ·refine LWp.skip ?_
                 simp
                 refine cutQ.mk ⟨decide (x.kind = 29)⟩ (Weak.to [1, 25, 52] [(1, 1)] (by decide) (by decide) (by simp [hp]) (by simp) (by simp)) ?_
                 simp [h22]
                ·refine LWp.sz hT hW ?_
                 simp
                 refine LWp.iff ?_
                 simp
                 refine ⟨fun h23 => ?_, fun h23 => ?_⟩
                 ·refine LWp.skip ?_
                  simp
                  refine cutQ.mk ⟨decide (x.kind = 30)⟩ (Weak.to [1, 25, 52] [(1, 1)] (by decide) (by decide) (by simp [hp]) (by simp) (by simp)) ?_
                  simp [h23]
                 ·refine LWp.sz hT hW ?_
                  simp
                  refine LWp.iff ?_
                  simp
                  refine ⟨fun h24 => ?_, fun h24 => ?_⟩
                  ·refine LWp.skip ?_
                   simp
                   refine cutQ.mk ⟨decide (x.kind = 31)⟩ (Weak.to [1, 25, 52] [(1, 1)] (by decide) (by decide) (by simp [hp]) (by simp) (by simp)) ?_
                   simp [h24]
                  ·refine LWp.sz hT hW ?_
                   simp
                   refine LWp.iff ?_
                   simp
                   refine ⟨fun h25 => ?_, fun h25 => ?_⟩
                   ·refine LWp.skip ?_
                    simp
                    refine cutQ.mk ⟨decide (x.kind = 32)⟩ (Weak.to [1, 25, 52] [(1, 1)] (by decide) (by decide) (by simp [hp]) (by simp) (by simp)) ?_
                    simp [h25]
                   ·refine LWp.rz hT hW ?_
                    simp
                    refine cutQ.mk ⟨decide (x.kind = 36)⟩ (Weak.to [1, 25, 52] [(1, 1)] (by decide) (by decide) (by simp [hp]) (by simp) (by simp)) ?_
                    simp only [decide_eq_true_eq]; omega
     ·refine LWp.iff ?_
      simp
      refine ⟨fun h27 => ?_, fun h27 => ?_⟩
      ·have q27 := hc27.1 h27
       refine LWp.sz hT hW ?_
       simp
       refine LWp.ret ?_
       simp
       unfold wordedB wordedK textB
       simp only [g1, g2, decide_true, Bool.true_and]
       repeat (first | rw [if_pos (by omega)] | rw [if_neg (by omega)])
       try rw [fieldB_eq]
       try simp
       try exact isEmpty_dec _
      ·have q27 : ¬ (x.kind = 8 ∨ x.kind = 10 ∨ x.kind = 11 ∨ x.kind = 12 ∨ x.kind = 21 ∨ x.kind = 24 ∨ x.kind = 25 ∨ x.kind = 26 ∨ x.kind = 27 ∨ x.kind = 28 ∨ x.kind = 29 ∨ x.kind = 30 ∨ x.kind = 31 ∨ x.kind = 32 ∨ x.kind = 36) := fun q => by simp [hc27.2 q] at h27
       refine LWp.skip ?_
       simp
       refine LWp.seq ?_
       have hw := whole_ok x.text true hl
       refine LWp.ro hT hW (fun | 73 => some <| .plain ⟨.d (.bool (wholeB x.text true)), true⟩ | _ => none) ?_
       simp
       refine ⟨hw, ?_⟩
       refine LWp.ret ?_
       simp
       unfold wordedB wordedK textB
       simp only [g1, g2, decide_true, Bool.true_and]
       repeat (first | rw [if_pos (by omega)] | rw [if_neg (by omega)])
       try rw [fieldB_eq]
       try simp
       try exact isEmpty_dec _
end
open Go.Proofs
section
attribute [local simp] Res.cond Nd.d_eq nd_t nd_dr nd_td ndsD
theorem right1_ok (x : Nd) (hx : Ok Tryz.prog 39 [x.d] ⟨.d (.bool (rightN x)), true⟩) : Ok Tryz.prog 64 [x.d] ⟨.d (.bool (!rightN x)), true⟩ := by
 refine Ok.ret Tryz.func64 (by kernel_rfl) (c := _) rfl Tryz.ntmps64 (by simp) Tryz.results64 (by intro _ h; cases h) fun w0 X hp => ?_
 refine LWp.sz hT hW ?_
 simp
 refine LWp.so hT hW (fun | 4 => some <| .plain ⟨.d (.bool (rightN x)), true⟩ | _ => none) ?_
 simp
 refine ⟨by simpa using hx, ?_⟩
 refine LWp.ret ?_
 simp
theorem right_step (x : Nd) (hw : weighN x ≤ 1000000000) (ih : ∀ y ∈ x.kids, weighN y ≤ 1000000000 → Ok Tryz.prog 39 [y.d] ⟨.d (.bool (rightN y)), true⟩) : Ok Tryz.prog 39 [x.d] ⟨.d (.bool (rightN x)), true⟩ := by
 refine Ok.ret Tryz.func39 (by kernel_rfl) (c := _) rfl Tryz.ntmps39 (by simp) Tryz.results39 (by intro _ h; cases h) fun w0 X hp => ?_
 refine LWp.sz hT hW ?_
 simp
 refine LWp.seq ?_
 have hs := shaped_ok x
 have hwo := worded_ok x
 have hl : x.text.length ≤ 9223372036854775807 := by have := weighN_eq x; omega
 have ha := AnyNd_ok x.kids (fun y => !rightN y) 64 [] (fun y hy => right1_ok y (ih y hy (by have := weigh_mem hy; have := weighN_eq x; omega)))
 refine LWp.ro hT hW (fun | 13 => some <| .plain ⟨.d (.bool (shapedB x)), true⟩ | 17 => some <| .plain ⟨.d (.bool (wordedB x)), true⟩ | 22 => some <| .plain ⟨.d (.bool (x.kids.any fun y => !rightN y)), true⟩ | _ => none) ?_
 simp
 refine ⟨⟨⟨fun _ _ => by simpa using hs, fun h0 h1 _ => by simpa using hwo ⟨h0, h1⟩ hl⟩, fun _ _ _ _ => ha⟩, ?_⟩
 refine LWp.ret ?_
 simp
 rw [rightN_eq, List.all_eq_not_any_not]
theorem right_ok (x : Nd) : weighN x ≤ 1000000000 → Ok Tryz.prog 39 [x.d] ⟨.d (.bool (rightN x)), true⟩ :=
 Nd.ind (p := fun x => weighN x ≤ 1000000000 → Ok Tryz.prog 39 [x.d] ⟨.d (.bool (rightN x)), true⟩) (fun _ _ _ _ ih hw => right_step _ hw (fun y hy => ih y hy)) x
theorem Valid_ok (x : Nd) (hw : weighN x ≤ 1000000000) : Ok Tryz.prog 14 [x.d] ⟨.d (.bool (validB x)), true⟩ := by
 refine Ok.ret Tryz.func14 (by kernel_rfl) (c := _) rfl Tryz.ntmps14 (by simp) Tryz.results14 (by intro _ h; cases h) fun w0 X hp => ?_
 refine LWp.sz hT hW ?_
 simp
 refine LWp.seq ?_
 have h1 := depth_ok x hw
 have h2 := right_ok x hw
 have h3 := text_ok x
 have h4 := @right_def x
 refine LWp.ro hT hW (fun | 13 => some <| .plain ⟨.d (I64 (depthN x)), true⟩ | 18 => some <| .plain ⟨.d (.bool (rightN x)), true⟩ | 22 => some <| .plain ⟨.d (.str (textT x)), true⟩ | _ => none) ?_
 simp
 refine ⟨⟨⟨fun _ _ => by simpa using h1, fun _ _ _ => by simpa using h2⟩, fun a b _ d => by simpa using h3 (h4 d a b) hw⟩, ?_⟩
 refine LWp.ret ?_
 simp [validB]
 rw [show decide ((depthN x : Int) ≤ 24) = decide (depthN x ≤ 24) from by rw [decide_eq_decide]; omega, show decide (((textT x).length : Int) ≤ 1024) = decide ((textT x).length ≤ 1024) from by rw [decide_eq_decide]; omega]
theorem valid_def {x : Nd} (h : validB x = true) : DefR x := by
 simp only [validB, Bool.and_eq_true, decide_eq_true_eq] at h
 exact right_def h.1.2 h.1.1.1.1 h.1.1.1.2
theorem Print_ok (x : Nd) (hw : weighN x ≤ 1000000000) : Ok Tryz.prog 16 [x.d] ⟨.d (.str (printS x)), true⟩ := by
 refine Ok.ret Tryz.func16 (by kernel_rfl) (c := _) rfl Tryz.ntmps16 (by simp) Tryz.results16 (by intro _ h; cases h) fun w0 X hp => ?_
 refine LWp.sz hT hW ?_
 simp
 refine LWp.seq ?_
 refine LWp.seq ?_
 have v1 := Valid_ok x hw
 refine LWp.ro hT hW (fun | 4 => some <| .plain ⟨.d (.bool (validB x)), true⟩ | _ => none) ?_
 simp
 refine ⟨by simpa using v1, ?_⟩
 refine LWp.iff ?_
 simp
 refine ⟨fun h1 => ?_, fun h1 => ?_⟩
 ·refine LWp.sz hT hW ?_
  simp
  refine LWp.ret ?_
  simp [printS, h1]
 ·refine LWp.skip ?_
  simp
  refine LWp.seq ?_
  have hv := valid_def h1
  have h4 := text_ok x hv hw
  refine LWp.ro hT hW (fun | 7 => some <| .plain ⟨.d (.str (textT x)), true⟩ | _ => none) ?_
  simp
  refine ⟨by simpa using h4, ?_⟩
  refine LWp.ret ?_
  simp [printS, h1]
theorem Head_ok (x : Nd) (hw : weighN x ≤ 1000000000) : Ok Tryz.prog 12 [x.d] ⟨.tup [.d (I64 (headK x)), .d (.str (headT x))], true⟩ := by
 refine Ok.two Tryz.func12 (by kernel_rfl) (c := _) rfl Tryz.ntmps12 (by simp) Tryz.results12 rfl fun w0 X hp => ?_
 refine LWp.sz hT hW ?_
 simp
 refine LWp.seq ?_
 refine LWp.seq ?_
 have v1 := Valid_ok x hw
 refine LWp.ro hT hW (fun | 5 => some <| .plain ⟨.d (.bool (validB x)), true⟩ | _ => none) ?_
 simp
 refine ⟨by simpa using v1, ?_⟩
 refine LWp.iff ?_
 simp
 refine ⟨fun h1 => ?_, fun h1 => ?_⟩
 ·refine LWp.sz hT hW ?_
  simp
  refine LWp.ret ?_
  simp [headK, headT, h1]
 ·refine LWp.skip ?_
  simp
  refine LWp.seq ?_
  refine LWp.regAny hT hW hMixed (lk [[],[0],[],[2],[0,1],[0,1,2,3,4]]) (lk [[],[],[],[],[],[]]) (lk [[],[],[],[],[],[]]) (by kernel_rfl) (fun _ => none) (fun _ => ⟨rfl, fun _ h => h⟩) ?_
  simp
  refine LWp.ret ?_
  simp [headK, headT, h1]
end
open Go.Proofs
section
attribute [local simp] Res.cond Nd.d_eq nd_t nd_dr nd_td ndsD
end
open Go.Proofs
section
attribute [local simp] Res.cond Nd.d_eq nd_t nd_dr nd_td ndsD
end
open Go.Proofs
section
attribute [local simp] Res.cond Nd.d_eq nd_t nd_dr nd_td ndsD evalIndex
end
open Go.Proofs
section
attribute [local simp] Res.cond Nd.d_eq nd_t nd_dr nd_td ndsD evalIndex
end
open Go.Proofs
section
attribute [local simp] Res.cond Nd.d_eq nd_t nd_dr nd_td ndsD evalIndex
theorem HasPrefix1_ok (s t : Str) (hl : s.length ≤ 9223372036854775807) (ht : t.length ≤ 9223372036854775807) : Ok Tryz.prog 137 [.str s, .str t] ⟨.d (.bool (decide (s.take t.length = t))), true⟩ := by
 refine Ok.ret Tryz.func137 (by kernel_rfl) (c := _) rfl Tryz.ntmps137 (by simp) Tryz.results137 (by intro _ h; cases h) fun w0 X hp => ?_
 refine LWp.sz hT hW ?_
 simp
 refine LWp.sz hT hW ?_
 simp
 refine LWp.ret ?_
 simp
 rw [Bool.beq_eq_decide_eq, Bool.eq_iff_iff]
 simp only [Bool.and_eq_true, decide_eq_true_eq]
 refine ⟨fun h => h.2, fun h => ⟨?_, h⟩⟩
 have e := congrArg List.length h
 rw [List.length_take] at e
 omega
theorem HasPrefix_ok (s t : Str) (hl : s.length ≤ 9223372036854775807) (ht : t.length ≤ 9223372036854775807) : Ok Tryz.prog 111 [.str s, .str t] ⟨.d (.bool (decide (s.take t.length = t))), true⟩ := by
 refine Ok.ret Tryz.func111 (by kernel_rfl) (c := _) rfl Tryz.ntmps111 (by simp) Tryz.results111 (by intro _ h; cases h) fun w0 X hp => ?_
 refine LWp.sz hT hW ?_
 simp
 refine LWp.seq ?_
 have h := HasPrefix1_ok s t hl ht
 refine LWp.ro hT hW (fun | 7 => some <| .plain ⟨.d (.bool (decide (s.take t.length = t))), true⟩ | _ => none) ?_
 simp
 refine ⟨h, ?_⟩
 refine LWp.ret ?_
 simp
theorem StrIndexByte_ok (s : Str) (c : UInt8) : Ok Tryz.prog 112 [.str s, .int .u8 (c.toNat : Int)] ⟨.d (I64 (idxC c s)), true⟩ := by
 refine Ok.ret Tryz.func112 (by kernel_rfl) (c := _) rfl Tryz.ntmps112 (by simp) Tryz.results112 (by intro _ h; cases h) fun w0 X hp => ?_
 refine LWp.sz hT hW ?_
 simp
 refine LWp.seq ?_
 have h := IndexByte_ok s c
 refine LWp.ro hT hW (fun | 7 => some <| .plain ⟨.d (I64 (idxC c s)), true⟩ | _ => none) ?_
 simp
 refine ⟨h, ?_⟩
 refine LWp.ret ?_
 simp
theorem next_eq (c : UInt8) (r : Str) : nextN (c :: r) = if letterB c then wordN (c :: r) else if c = 36 then (if 0 < wordN r then wordN r + 1 else 0)
  else if digitB c then (if runP digitB (c :: r) ≤ 3 then runP digitB (c :: r) else 0)
  else if (c :: r).take 2 = [60, 61] ∨ (c :: r).take 2 = [61, 61] then 2 else if c ∈ signs then 1 else 0 := rfl
theorem u36 {c : UInt8} : ((c.toNat : Int) = 36) ↔ c = 36 := by
 rw [← UInt8.toNat_inj]
 have : (36 : UInt8).toNat = 36 := rfl
 omega
theorem take2_eq (c : UInt8) (r : Str) (a b : UInt8) : (c :: r).take 2 = [a, b] ↔ c = a ∧ r.take 1 = [b] := by simp
theorem idxC_mem (c : UInt8) : ∀ l : Str, 0 ≤ idxC c l ↔ c ∈ l
 | [] => by simp [idxC, cutAt]
 | d :: l => by
  have ih := idxC_mem c l
  unfold idxC at ih ⊢
  unfold cutAt
  by_cases h : d = c
  ·simp [h]
  ·rw [if_neg h]
   have h' : ¬ c = d := fun e => h e.symm
   cases q : cutAt c l with
   | none => rw [q] at ih; simp only [Option.map_none, List.mem_cons, h', false_or]; exact ih
   | some q2 => rw [q] at ih; simp only [Option.map_some, List.mem_cons, h', false_or, List.length_cons]; exact ⟨fun _ => ih.1 (by simp), fun _ => by omega⟩
theorem next_ok (c : UInt8) (r : Str) (hl : (c :: r).length ≤ 9223372036854775807) : Ok Tryz.prog 71 [.str (c :: r)] ⟨.d (I64 (nextN (c :: r))), true⟩ := by
 refine Ok.ret Tryz.func71 (by kernel_rfl) (c := _) rfl Tryz.ntmps71 (by simp) Tryz.results71 (by intro _ h; cases h) fun w0 X hp => ?_
 have hr : r.length + 1 ≤ 9223372036854775807 := by simpa using hl
 refine LWp.sz hT hW ?_
 simp
 refine LWp.seq ?_
 refine LWp.block ?_
 refine LWp.seq ?_
 have l1 := letter_ok c
 refine LWp.ro hT hW (fun | 8 => some <| .plain ⟨.d (.bool (letterB c)), true⟩ | _ => none) ?_
 simp
 refine ⟨l1, ?_⟩
 refine LWp.iff ?_
 simp
 refine ⟨fun h1 => ?_, fun h1 => ?_⟩
 ·refine LWp.seq ?_
  have w1 := word_ok (c :: r) hl
  refine LWp.ro hT hW (fun | 10 => some <| .plain ⟨.d (I64 (wordN (c :: r))), true⟩ | _ => none) ?_
  simp
  refine ⟨w1, ?_⟩
  refine LWp.ret ?_
  simp
  rw [next_eq, if_pos h1]
 ·refine LWp.sz hT hW ?_
  simp
  refine LWp.iff ?_
  simp
  refine ⟨fun h3 => ?_, fun h3 => ?_⟩
  ·refine LWp.seq ?_
   refine LWp.seq ?_
   have w4 := word_ok r (by omega)
   refine LWp.ro hT hW (fun | 17 => some <| .plain ⟨.d (I64 (wordN r)), true⟩ | _ => none) ?_
   simp
   refine ⟨⟨by omega, w4⟩, ?_⟩
   refine LWp.sz hT hW ?_
   simp
   refine LWp.iff ?_
   simp
   refine ⟨fun h5 => ?_, fun h5 => ?_⟩
   ·refine LWp.seq ?_
    have b6 := wordN_le r
    refine LWp.rz hT hW ?_
    simp
    refine ⟨by omega, ?_⟩
    refine LWp.ret ?_
    simp
    rw [next_eq, if_neg (by simp [h1]), if_pos (u36.1 h3), if_pos h5]
    rfl
   ·refine LWp.skip ?_
    simp
    refine LWp.sz hT hW ?_
    simp
    refine LWp.ret ?_
    simp
    rw [next_eq, if_neg (by simp [h1]), if_pos (u36.1 h3), if_neg (by omega)]
    rfl
  ·refine LWp.seq ?_
   have l8 := digit_ok c
   refine LWp.ro hT hW (fun | 25 => some <| .plain ⟨.d (.bool (digitB c)), true⟩ | _ => none) ?_
   simp
   refine ⟨l8, ?_⟩
   refine LWp.iff ?_
   simp
   refine ⟨fun h8 => ?_, fun h8 => ?_⟩
   ·refine LWp.seq ?_
    refine LWp.seq ?_
    have w9 := run_ok (c :: r) digitB 109 (fun c => digit_ok c) hl
    refine LWp.ro hT hW (fun | 27 => some <| .plain ⟨.d (I64 (runP digitB (c :: r))), true⟩ | _ => none) ?_
    simp
    refine ⟨w9, ?_⟩
    refine LWp.sz hT hW ?_
    simp
    refine LWp.iff ?_
    simp
    refine ⟨fun h10 => ?_, fun h10 => ?_⟩
    ·refine LWp.sz hT hW ?_
     simp
     refine LWp.ret ?_
     simp
     rw [next_eq, if_neg (by simp [h1]), if_neg (fun e => h3 (u36.2 e)), if_pos h8, if_pos (by omega)]
    ·refine LWp.skip ?_
     simp
     refine LWp.sz hT hW ?_
     simp
     refine LWp.ret ?_
     simp
     rw [next_eq, if_neg (by simp [h1]), if_neg (fun e => h3 (u36.2 e)), if_pos h8, if_neg (by omega)]
     rfl
   ·refine LWp.seq ?_
    have w13 := HasPrefix_ok (c :: r) [60, 61] hl (by decide)
    have v13 := HasPrefix_ok (c :: r) [61, 61] hl (by decide)
    refine LWp.ro hT hW (fun | 33 => some <| .plain ⟨.d (.bool (decide ((c :: r).take 2 = [60, 61]))), true⟩ | 36 => some <| .plain ⟨.d (.bool (decide ((c :: r).take 2 = [61, 61]))), true⟩ | _ => none) ?_
    simp
    refine ⟨⟨⟨by simpa using w13, fun _ => by simpa using v13⟩, fun h => Classical.not_and_iff_not_or_not.1 fun q => h q.1 q.2⟩, ?_⟩
    refine LWp.iff ?_
    simp
    refine ⟨fun g => ?_, fun g1 g2 => ?_⟩
    ·refine LWp.sz hT hW ?_
     simp
     refine LWp.ret ?_
     simp
     rw [next_eq, if_neg (by simp [h1]), if_neg (fun e => h3 (u36.2 e)), if_neg (by simp [h8]), if_pos (by rw [take2_eq, take2_eq]; exact g)]
     rfl
    ·refine LWp.seq ?_
     have w15 := StrIndexByte_ok [40, 41, 123, 125, 61, 43, 45, 42, 60, 59, 46] c
     refine LWp.ro hT hW (fun | 41 => some <| .plain ⟨.d (I64 (idxC c [40, 41, 123, 125, 61, 43, 45, 42, 60, 59, 46])), true⟩ | _ => none) ?_
     simp
     refine ⟨w15, ?_⟩
     refine LWp.iff ?_
     simp
     refine ⟨fun h15 => ?_, fun h15 => ?_⟩
     ·refine LWp.sz hT hW ?_
      simp
      refine LWp.ret ?_
      simp
      rw [next_eq, if_neg (by simp [h1]), if_neg (fun e => h3 (u36.2 e)), if_neg (by simp [h8]), if_neg (by rw [take2_eq, take2_eq]; rintro (⟨e1, e2⟩ | ⟨e1, e2⟩); exact g1 e1 e2; exact g2 e1 e2), if_pos ((idxC_mem c signs).1 h15)]
      rfl
     ·refine LWp.skip ?_
      simp
      refine LWp.sz hT hW ?_
      simp
      refine LWp.ret ?_
      simp
      rw [next_eq, if_neg (by simp [h1]), if_neg (fun e => h3 (u36.2 e)), if_neg (by simp [h8]), if_neg (by rw [take2_eq, take2_eq]; rintro (⟨e1, e2⟩ | ⟨e1, e2⟩); exact g1 e1 e2; exact g2 e1 e2), if_neg (fun e => by have := (idxC_mem c signs).2 e; unfold signs at this; omega)]
      rfl
end
end Go.Eng
