/-
  Texts of the proofs of this seat, part 5. No condition.
-/
import Derived.Test.YtmndmahpoljhmaaGreatDoorMD
import Derived.Test.YtmndmahpoljhmaaGreatDoorProg
import Derived.KernelRfl
import Derived.Shelf.Strconv.Itoa3
import Derived.Shelf.Strings.Search1
set_option linter.unusedVariables false
set_option linter.unusedSimpArgs false
namespace Go.Eng
def Ei:List (Nat×lA):=
 [(2,⟨.int .i64,1,8,[.int .i64 0],[]⟩),
  (3,⟨.int .i64,1,8,[.int .i64 0],[]⟩),
  (4,⟨.bool,1,1,[.bool false],[]⟩),
  (5,⟨.int .u8,1,1,[.int .u8 0],[]⟩),
  (6,⟨.int .u8,1,1,[.int .u8 0],[]⟩),
  (9,⟨.str,1,16,[.string .empty],[]⟩),
  (10,⟨.str,1,16,[.string .empty],[]⟩),
  (11,⟨.str,1,16,[.string .empty],[]⟩),
  (12,⟨.int .u64,1,8,[.int .u64 0],[]⟩),
  (21,⟨.int .i32,1,4,[.int .i32 0],[]⟩),
  (22,⟨.slice 3,1,24,[.slice none 0 0],[]⟩),
  (23,⟨.other,1,8,[.nilFunc],[]⟩),
  (24,⟨.other,1,8,[.nilFunc],[]⟩),
  (25,⟨.slice 27,1,24,[.slice none 0 0],[]⟩),
  (26,⟨.struct [(0,3),(1,9),(2,3),(3,25)],4,56,[.int .i64 0,.string .empty,.int .i64 0,.slice none 0 0],[]⟩),
  (27,⟨.struct [(0,3),(1,9),(2,3),(3,25)],4,56,[.int .i64 0,.string .empty,.int .i64 0,.slice none 0 0],[]⟩),
  (28,⟨.other,1,8,[.nilFunc],[]⟩),
  (29,⟨.other,1,8,[.nilFunc],[]⟩),
  (30,⟨.slice 9,1,24,[.slice none 0 0],[]⟩),
  (31,⟨.int .i64,1,8,[.int .i64 0],[]⟩),
  (33,⟨.other,1,8,[.nilFunc],[]⟩),
  (34,⟨.other,1,8,[.nilFunc],[]⟩),
  (35,⟨.other,1,8,[.nilFunc],[]⟩),
  (36,⟨.other,1,8,[.nilFunc],[]⟩),
  (37,⟨.other,1,8,[.nilFunc],[]⟩),
  (38,⟨.other,1,8,[.nilFunc],[]⟩),
  (39,⟨.other,1,8,[.nilFunc],[]⟩),
  (40,⟨.other,1,8,[.nilFunc],[]⟩),
  (41,⟨.other,1,8,[.nilFunc],[]⟩),
  (42,⟨.other,1,8,[.nilFunc],[]⟩),
  (43,⟨.other,1,8,[.nilFunc],[]⟩),
  (44,⟨.slice 48,1,24,[.slice none 0 0],[]⟩),
  (45,⟨.other,1,8,[.nilFunc],[]⟩),
  (47,⟨.other,1,8,[.nilFunc],[]⟩),
  (48,⟨.slice 54,1,24,[.slice none 0 0],[]⟩),
  (49,⟨.other,1,8,[.nilFunc],[]⟩),
  (50,⟨.other,1,8,[.nilFunc],[]⟩),
  (51,⟨.other,1,8,[.nilFunc],[]⟩),
  (52,⟨.other,1,8,[.nilFunc],[]⟩),
  (53,⟨.struct [(0,9),(1,9)],2,32,[.string .empty,.string .empty],[.str,.str]⟩),
  (54,⟨.struct [(0,9),(1,9)],2,32,[.string .empty,.string .empty],[.str,.str]⟩),
  (56,⟨.other,1,8,[.nilFunc],[]⟩),
  (58,⟨.other,1,8,[.nilFunc],[]⟩),
  (59,⟨.other,1,8,[.nilFunc],[]⟩),
  (61,⟨.other,1,8,[.nilFunc],[]⟩),
  (62,⟨.other,1,8,[.nilFunc],[]⟩),
  (63,⟨.other,1,8,[.nilFunc],[]⟩),
  (64,⟨.arr 16 5,16,16,[.int .u8 0,.int .u8 0,.int .u8 0,.int .u8 0,.int .u8 0,.int .u8 0,.int .u8 0,.int .u8 0,.int .u8 0,.int .u8 0,.int .u8 0,.int .u8 0,.int .u8 0,.int .u8 0,.int .u8 0,.int .u8 0],[]⟩),
  (65,⟨.arr 16 5,16,16,[.int .u8 0,.int .u8 0,.int .u8 0,.int .u8 0,.int .u8 0,.int .u8 0,.int .u8 0,.int .u8 0,.int .u8 0,.int .u8 0,.int .u8 0,.int .u8 0,.int .u8 0,.int .u8 0,.int .u8 0,.int .u8 0],[]⟩),
  (66,⟨.other,1,8,[.nilFunc],[]⟩),
  (67,⟨.other,1,8,[.nilFunc],[]⟩),
  (68,⟨.other,1,8,[.nilFunc],[]⟩),
  (69,⟨.other,1,8,[.nilFunc],[]⟩),
  (70,⟨.slice 74,1,24,[.slice none 0 0],[]⟩),
  (72,⟨.other,1,8,[.nilFunc],[]⟩),
  (73,⟨.struct [(0,3),(1,3)],2,16,[.int .i64 0,.int .i64 0],[.int .i64,.int .i64]⟩),
  (74,⟨.struct [(0,3),(1,3)],2,16,[.int .i64 0,.int .i64 0],[.int .i64,.int .i64]⟩),
  (75,⟨.slice 5,1,24,[.slice none 0 0],[]⟩),
  (76,⟨.other,1,8,[.nilFunc],[]⟩),
  (77,⟨.ptr 79,1,8,[.pointer none],[]⟩),
  (78,⟨.struct [(0,22),(1,3)],2,32,[.slice none 0 0,.int .i64 0],[]⟩),
  (79,⟨.struct [(0,22),(1,3)],2,32,[.slice none 0 0,.int .i64 0],[]⟩),
  (80,⟨.other,1,8,[.nilFunc],[]⟩),
  (81,⟨.other,1,8,[.nilFunc],[]⟩),
  (82,⟨.other,1,8,[.nilFunc],[]⟩),
  (83,⟨.slice 91,1,24,[.slice none 0 0],[]⟩),
  (85,⟨.other,1,8,[.nilFunc],[]⟩),
  (86,⟨.ptr 88,1,8,[.pointer none],[]⟩),
  (87,⟨.struct [(0,83),(1,31)],2,32,[.slice none 0 0,.int .i64 0],[]⟩),
  (88,⟨.struct [(0,83),(1,31)],2,32,[.slice none 0 0,.int .i64 0],[]⟩),
  (89,⟨.other,1,8,[.nilFunc],[]⟩),
  (90,⟨.struct [(0,9),(1,3)],2,24,[.string .empty,.int .i64 0],[.str,.int .i64]⟩),
  (91,⟨.struct [(0,9),(1,3)],2,24,[.string .empty,.int .i64 0],[.str,.int .i64]⟩),
  (92,⟨.other,1,8,[.nilFunc],[]⟩),
  (93,⟨.other,1,8,[.nilFunc],[]⟩),
  (95,⟨.other,1,8,[.nilFunc],[]⟩),
  (96,⟨.other,1,8,[.nilFunc],[]⟩),
  (97,⟨.other,1,8,[.nilFunc],[]⟩),
  (98,⟨.other,1,8,[.nilFunc],[]⟩),
  (99,⟨.other,1,8,[.nilFunc],[]⟩),
  (100,⟨.arr 26 9,26,416,[.string .empty,.string .empty,.string .empty,.string .empty,.string .empty,.string .empty,.string .empty,.string .empty,.string .empty,.string .empty,.string .empty,.string .empty,.string .empty,.string .empty,.string .empty,.string .empty,.string .empty,.string .empty,.string .empty,.string .empty,.string .empty,.string .empty,.string .empty,.string .empty,.string .empty,.string .empty],[]⟩),
  (101,⟨.other,1,8,[.nilFunc],[]⟩),
  (102,⟨.other,1,8,[.nilFunc],[]⟩),
  (103,⟨.other,1,8,[.nilFunc],[]⟩),
  (104,⟨.map 9 3,1,8,[.map none],[]⟩),
  (105,⟨.struct [(0,25),(1,104)],2,32,[.slice none 0 0,.map none],[]⟩),
  (106,⟨.struct [(0,25),(1,104)],2,32,[.slice none 0 0,.map none],[]⟩),
  (108,⟨.other,1,8,[.nilFunc],[]⟩),
  (109,⟨.other,1,8,[.nilFunc],[]⟩),
  (110,⟨.other,1,8,[.nilFunc],[]⟩),
  (111,⟨.other,1,8,[.nilFunc],[]⟩),
  (112,⟨.other,1,8,[.nilFunc],[]⟩),
  (113,⟨.other,1,8,[.nilFunc],[]⟩),
  (114,⟨.other,1,8,[.nilFunc],[]⟩),
  (115,⟨.other,1,8,[.nilFunc],[]⟩),
  (116,⟨.other,1,8,[.nilFunc],[]⟩),
  (117,⟨.other,1,8,[.nilFunc],[]⟩),
  (118,⟨.other,1,8,[.nilFunc],[]⟩),
  (119,⟨.other,1,8,[.nilFunc],[]⟩),
  (120,⟨.map 9 4,1,8,[.map none],[]⟩),
  (121,⟨.other,1,8,[.nilFunc],[]⟩),
  (122,⟨.other,1,8,[.nilFunc],[]⟩),
  (123,⟨.other,1,8,[.nilFunc],[]⟩),
  (124,⟨.struct [(0,3),(1,9),(2,9)],3,40,[.int .i64 0,.string .empty,.string .empty],[.int .i64,.str,.str]⟩),
  (125,⟨.struct [(0,3),(1,9),(2,9)],3,40,[.int .i64 0,.string .empty,.string .empty],[.int .i64,.str,.str]⟩),
  (126,⟨.other,1,8,[.nilFunc],[]⟩),
  (127,⟨.other,1,8,[.nilFunc],[]⟩),
  (128,⟨.other,1,8,[.nilFunc],[]⟩),
  (129,⟨.other,1,8,[.nilFunc],[]⟩),
  (130,⟨.other,1,8,[.nilFunc],[]⟩),
  (131,⟨.slice 134,1,24,[.slice none 0 0],[]⟩),
  (132,⟨.other,1,8,[.nilFunc],[]⟩),
  (133,⟨.struct [(0,3),(1,3),(2,9),(3,9)],4,48,[.int .i64 0,.int .i64 0,.string .empty,.string .empty],[.int .i64,.int .i64,.str,.str]⟩),
  (134,⟨.struct [(0,3),(1,3),(2,9),(3,9)],4,48,[.int .i64 0,.int .i64 0,.string .empty,.string .empty],[.int .i64,.int .i64,.str,.str]⟩),
  (136,⟨.map 3 4,1,8,[.map none],[]⟩),
  (137,⟨.other,1,8,[.nilFunc],[]⟩),
  (138,⟨.other,1,8,[.nilFunc],[]⟩),
  (139,⟨.other,1,8,[.nilFunc],[]⟩),
  (140,⟨.other,1,8,[.nilFunc],[]⟩),
  (141,⟨.other,1,8,[.nilFunc],[]⟩),
  (142,⟨.int .u32,1,4,[.int .u32 0],[]⟩),
  (143,⟨.arr 8 142,8,32,[.int .u32 0,.int .u32 0,.int .u32 0,.int .u32 0,.int .u32 0,.int .u32 0,.int .u32 0,.int .u32 0],[]⟩),
  (144,⟨.arr 64 5,64,64,[.int .u8 0,.int .u8 0,.int .u8 0,.int .u8 0,.int .u8 0,.int .u8 0,.int .u8 0,.int .u8 0,.int .u8 0,.int .u8 0,.int .u8 0,.int .u8 0,.int .u8 0,.int .u8 0,.int .u8 0,.int .u8 0,.int .u8 0,.int .u8 0,.int .u8 0,.int .u8 0,.int .u8 0,.int .u8 0,.int .u8 0,.int .u8 0,.int .u8 0,.int .u8 0,.int .u8 0,.int .u8 0,.int .u8 0,.int .u8 0,.int .u8 0,.int .u8 0,.int .u8 0,.int .u8 0,.int .u8 0,.int .u8 0,.int .u8 0,.int .u8 0,.int .u8 0,.int .u8 0,.int .u8 0,.int .u8 0,.int .u8 0,.int .u8 0,.int .u8 0,.int .u8 0,.int .u8 0,.int .u8 0,.int .u8 0,.int .u8 0,.int .u8 0,.int .u8 0,.int .u8 0,.int .u8 0,.int .u8 0,.int .u8 0,.int .u8 0,.int .u8 0,.int .u8 0,.int .u8 0,.int .u8 0,.int .u8 0,.int .u8 0,.int .u8 0],[]⟩),
  (145,⟨.int .u64,1,8,[.int .u64 0],[]⟩),
  (146,⟨.struct [(0,143),(8,144),(72,145)],73,104,[.int .u32 0,.int .u32 0,.int .u32 0,.int .u32 0,.int .u32 0,.int .u32 0,.int .u32 0,.int .u32 0,.int .u8 0,.int .u8 0,.int .u8 0,.int .u8 0,.int .u8 0,.int .u8 0,.int .u8 0,.int .u8 0,.int .u8 0,.int .u8 0,.int .u8 0,.int .u8 0,.int .u8 0,.int .u8 0,.int .u8 0,.int .u8 0,.int .u8 0,.int .u8 0,.int .u8 0,.int .u8 0,.int .u8 0,.int .u8 0,.int .u8 0,.int .u8 0,.int .u8 0,.int .u8 0,.int .u8 0,.int .u8 0,.int .u8 0,.int .u8 0,.int .u8 0,.int .u8 0,.int .u8 0,.int .u8 0,.int .u8 0,.int .u8 0,.int .u8 0,.int .u8 0,.int .u8 0,.int .u8 0,.int .u8 0,.int .u8 0,.int .u8 0,.int .u8 0,.int .u8 0,.int .u8 0,.int .u8 0,.int .u8 0,.int .u8 0,.int .u8 0,.int .u8 0,.int .u8 0,.int .u8 0,.int .u8 0,.int .u8 0,.int .u8 0,.int .u8 0,.int .u8 0,.int .u8 0,.int .u8 0,.int .u8 0,.int .u8 0,.int .u8 0,.int .u8 0,.int .u64 0],[]⟩),
  (147,⟨.struct [(0,143),(8,144),(72,145)],73,104,[.int .u32 0,.int .u32 0,.int .u32 0,.int .u32 0,.int .u32 0,.int .u32 0,.int .u32 0,.int .u32 0,.int .u8 0,.int .u8 0,.int .u8 0,.int .u8 0,.int .u8 0,.int .u8 0,.int .u8 0,.int .u8 0,.int .u8 0,.int .u8 0,.int .u8 0,.int .u8 0,.int .u8 0,.int .u8 0,.int .u8 0,.int .u8 0,.int .u8 0,.int .u8 0,.int .u8 0,.int .u8 0,.int .u8 0,.int .u8 0,.int .u8 0,.int .u8 0,.int .u8 0,.int .u8 0,.int .u8 0,.int .u8 0,.int .u8 0,.int .u8 0,.int .u8 0,.int .u8 0,.int .u8 0,.int .u8 0,.int .u8 0,.int .u8 0,.int .u8 0,.int .u8 0,.int .u8 0,.int .u8 0,.int .u8 0,.int .u8 0,.int .u8 0,.int .u8 0,.int .u8 0,.int .u8 0,.int .u8 0,.int .u8 0,.int .u8 0,.int .u8 0,.int .u8 0,.int .u8 0,.int .u8 0,.int .u8 0,.int .u8 0,.int .u8 0,.int .u8 0,.int .u8 0,.int .u8 0,.int .u8 0,.int .u8 0,.int .u8 0,.int .u8 0,.int .u8 0,.int .u64 0],[]⟩),
  (148,⟨.other,1,8,[.nilFunc],[]⟩),
  (149,⟨.other,1,8,[.nilFunc],[]⟩),
  (150,⟨.other,1,8,[.nilFunc],[]⟩),
  (151,⟨.arr 32 5,32,32,[.int .u8 0,.int .u8 0,.int .u8 0,.int .u8 0,.int .u8 0,.int .u8 0,.int .u8 0,.int .u8 0,.int .u8 0,.int .u8 0,.int .u8 0,.int .u8 0,.int .u8 0,.int .u8 0,.int .u8 0,.int .u8 0,.int .u8 0,.int .u8 0,.int .u8 0,.int .u8 0,.int .u8 0,.int .u8 0,.int .u8 0,.int .u8 0,.int .u8 0,.int .u8 0,.int .u8 0,.int .u8 0,.int .u8 0,.int .u8 0,.int .u8 0,.int .u8 0],[]⟩),
  (152,⟨.other,1,8,[.nilFunc],[]⟩),
  (153,⟨.other,1,8,[.nilFunc],[]⟩),
  (154,⟨.other,1,8,[.nilFunc],[]⟩),
  (155,⟨.other,1,8,[.nilFunc],[]⟩),
  (156,⟨.other,1,8,[.nilFunc],[]⟩),
  (157,⟨.other,1,8,[.nilFunc],[]⟩),
  (158,⟨.other,1,8,[.nilFunc],[]⟩),
  (159,⟨.other,1,8,[.nilFunc],[]⟩),
  (160,⟨.other,1,8,[.nilFunc],[]⟩),
  (161,⟨.other,1,8,[.nilFunc],[]⟩),
  (162,⟨.other,1,8,[.nilFunc],[]⟩),
  (163,⟨.other,1,8,[.nilFunc],[]⟩),
  (164,⟨.other,1,8,[.nilFunc],[]⟩),
  (165,⟨.int .u64,1,8,[.int .u64 0],[]⟩),
  (166,⟨.other,1,8,[.nilFunc],[]⟩),
  (167,⟨.other,1,8,[.nilFunc],[]⟩),
  (168,⟨.other,1,8,[.nilFunc],[]⟩),
  (169,⟨.other,1,8,[.nilFunc],[]⟩),
  (170,⟨.map 3 3,1,8,[.map none],[]⟩),
  (171,⟨.other,1,8,[.nilFunc],[]⟩),
  (173,⟨.other,1,8,[.nilFunc],[]⟩),
  (174,⟨.other,1,8,[.nilFunc],[]⟩),
  (175,⟨.ptr 177,1,8,[.pointer none],[]⟩),
  (176,⟨.struct [(0,9),(1,70),(2,3),(3,4),(4,4)],5,56,[.string .empty,.slice none 0 0,.int .i64 0,.bool false,.bool false],[]⟩),
  (177,⟨.struct [(0,9),(1,70),(2,3),(3,4),(4,4)],5,56,[.string .empty,.slice none 0 0,.int .i64 0,.bool false,.bool false],[]⟩),
  (179,⟨.other,1,8,[.nilFunc],[]⟩),
  (180,⟨.other,1,8,[.nilFunc],[]⟩),
  (181,⟨.other,1,8,[.nilFunc],[]⟩),
  (182,⟨.arr 3 9,3,48,[.string .empty,.string .empty,.string .empty],[]⟩),
  (183,⟨.slice 182,1,24,[.slice none 0 0],[]⟩),
  (184,⟨.other,1,8,[.nilFunc],[]⟩),
  (185,⟨.other,1,8,[.nilFunc],[]⟩),
  (186,⟨.other,1,8,[.nilFunc],[]⟩),
  (187,⟨.other,1,8,[.nilFunc],[]⟩),
  (188,⟨.other,1,8,[.nilFunc],[]⟩),
  (189,⟨.other,1,8,[.nilFunc],[]⟩),
  (190,⟨.other,1,8,[.nilFunc],[]⟩),
  (194,⟨.other,1,8,[.nilFunc],[]⟩),
  (195,⟨.arr 2 3,2,16,[.int .i64 0,.int .i64 0],[]⟩),
  (196,⟨.arr 37 195,74,592,[.int .i64 0,.int .i64 0,.int .i64 0,.int .i64 0,.int .i64 0,.int .i64 0,.int .i64 0,.int .i64 0,.int .i64 0,.int .i64 0,.int .i64 0,.int .i64 0,.int .i64 0,.int .i64 0,.int .i64 0,.int .i64 0,.int .i64 0,.int .i64 0,.int .i64 0,.int .i64 0,.int .i64 0,.int .i64 0,.int .i64 0,.int .i64 0,.int .i64 0,.int .i64 0,.int .i64 0,.int .i64 0,.int .i64 0,.int .i64 0,.int .i64 0,.int .i64 0,.int .i64 0,.int .i64 0,.int .i64 0,.int .i64 0,.int .i64 0,.int .i64 0,.int .i64 0,.int .i64 0,.int .i64 0,.int .i64 0,.int .i64 0,.int .i64 0,.int .i64 0,.int .i64 0,.int .i64 0,.int .i64 0,.int .i64 0,.int .i64 0,.int .i64 0,.int .i64 0,.int .i64 0,.int .i64 0,.int .i64 0,.int .i64 0,.int .i64 0,.int .i64 0,.int .i64 0,.int .i64 0,.int .i64 0,.int .i64 0,.int .i64 0,.int .i64 0,.int .i64 0,.int .i64 0,.int .i64 0,.int .i64 0,.int .i64 0,.int .i64 0,.int .i64 0,.int .i64 0,.int .i64 0,.int .i64 0],[]⟩),
  (197,⟨.other,1,8,[.nilFunc],[]⟩),
  (198,⟨.int .i64,1,8,[.int .i64 0],[]⟩),
  (200,⟨.other,1,8,[.nilFunc],[]⟩),
  (201,⟨.other,1,8,[.nilFunc],[]⟩),
  (202,⟨.other,1,8,[.nilFunc],[]⟩),
  (203,⟨.other,1,8,[.nilFunc],[]⟩),
  (204,⟨.other,1,8,[.nilFunc],[]⟩),
  (205,⟨.other,1,8,[.nilFunc],[]⟩),
  (206,⟨.other,1,8,[.nilFunc],[]⟩),
  (207,⟨.map 31 3,1,8,[.map none],[]⟩),
  (208,⟨.other,1,8,[.nilFunc],[]⟩),
  (209,⟨.other,1,8,[.nilFunc],[]⟩),
  (210,⟨.other,1,8,[.nilFunc],[]⟩),
  (211,⟨.other,1,8,[.nilFunc],[]⟩),
  (212,⟨.other,1,8,[.nilFunc],[]⟩),
  (213,⟨.other,1,8,[.nilFunc],[]⟩),
  (214,⟨.other,1,8,[.nilFunc],[]⟩),
  (215,⟨.arr 64 142,64,256,[.int .u32 0,.int .u32 0,.int .u32 0,.int .u32 0,.int .u32 0,.int .u32 0,.int .u32 0,.int .u32 0,.int .u32 0,.int .u32 0,.int .u32 0,.int .u32 0,.int .u32 0,.int .u32 0,.int .u32 0,.int .u32 0,.int .u32 0,.int .u32 0,.int .u32 0,.int .u32 0,.int .u32 0,.int .u32 0,.int .u32 0,.int .u32 0,.int .u32 0,.int .u32 0,.int .u32 0,.int .u32 0,.int .u32 0,.int .u32 0,.int .u32 0,.int .u32 0,.int .u32 0,.int .u32 0,.int .u32 0,.int .u32 0,.int .u32 0,.int .u32 0,.int .u32 0,.int .u32 0,.int .u32 0,.int .u32 0,.int .u32 0,.int .u32 0,.int .u32 0,.int .u32 0,.int .u32 0,.int .u32 0,.int .u32 0,.int .u32 0,.int .u32 0,.int .u32 0,.int .u32 0,.int .u32 0,.int .u32 0,.int .u32 0,.int .u32 0,.int .u32 0,.int .u32 0,.int .u32 0,.int .u32 0,.int .u32 0,.int .u32 0,.int .u32 0],[]⟩),
  (216,⟨.other,1,8,[.nilFunc],[]⟩),
  (217,⟨.arr 4 142,4,16,[.int .u32 0,.int .u32 0,.int .u32 0,.int .u32 0],[]⟩),
  (218,⟨.slice 142,1,24,[.slice none 0 0],[]⟩),
  (219,⟨.other,1,8,[.nilFunc],[]⟩),
  (220,⟨.other,1,8,[.nilFunc],[]⟩),
  (221,⟨.ptr 27,1,8,[.pointer none],[]⟩),
  (222,⟨.other,1,8,[.nilFunc],[]⟩),
  (223,⟨.other,1,8,[.nilFunc],[]⟩),
  (224,⟨.other,1,8,[.nilFunc],[]⟩),
  (225,⟨.other,1,8,[.nilFunc],[]⟩),
  (226,⟨.other,1,8,[.nilFunc],[]⟩),
  (227,⟨.int .u64,1,8,[.int .u64 0],[]⟩),
  (228,⟨.other,1,8,[.nilFunc],[]⟩),
  (229,⟨.other,1,8,[.nilFunc],[]⟩),
  (230,⟨.other,1,8,[.nilFunc],[]⟩),
  (231,⟨.ptr 3,1,8,[.pointer none],[]⟩),
  (232,⟨.other,1,8,[.nilFunc],[]⟩),
  (233,⟨.other,1,8,[.nilFunc],[]⟩),
  (234,⟨.other,1,8,[.nilFunc],[]⟩),
  (236,⟨.other,1,8,[.nilFunc],[]⟩),
  (237,⟨.int .i64,1,8,[.int .i64 0],[]⟩),
  (239,⟨.other,1,8,[.nilFunc],[]⟩),
  (240,⟨.ptr 262,1,8,[.pointer none],[]⟩),
  (241,⟨.other,1,8,[.nilFunc],[]⟩),
  (242,⟨.other,1,8,[.nilFunc],[]⟩),
  (243,⟨.slice 138,1,24,[.slice none 0 0],[]⟩),
  (244,⟨.struct [(0,9),(1,3)],2,24,[.string .empty,.int .i64 0],[.str,.int .i64]⟩),
  (245,⟨.struct [(0,9),(1,3)],2,24,[.string .empty,.int .i64 0],[.str,.int .i64]⟩),
  (246,⟨.arr 6 245,12,144,[.string .empty,.int .i64 0,.string .empty,.int .i64 0,.string .empty,.int .i64 0,.string .empty,.int .i64 0,.string .empty,.int .i64 0,.string .empty,.int .i64 0],[.str,.int .i64,.str,.int .i64,.str,.int .i64,.str,.int .i64,.str,.int .i64,.str,.int .i64]⟩),
  (247,⟨.arr 24 5,24,24,[.int .u8 0,.int .u8 0,.int .u8 0,.int .u8 0,.int .u8 0,.int .u8 0,.int .u8 0,.int .u8 0,.int .u8 0,.int .u8 0,.int .u8 0,.int .u8 0,.int .u8 0,.int .u8 0,.int .u8 0,.int .u8 0,.int .u8 0,.int .u8 0,.int .u8 0,.int .u8 0,.int .u8 0,.int .u8 0,.int .u8 0,.int .u8 0],[]⟩),
  (248,⟨.other,1,8,[.nilFunc],[]⟩),
  (250,⟨.other,1,8,[.nilFunc],[]⟩),
  (251,⟨.ptr 227,1,8,[.pointer none],[]⟩),
  (253,⟨.other,1,8,[.nilFunc],[]⟩),
  (254,⟨.other,1,8,[.nilFunc],[]⟩),
  (255,⟨.other,1,8,[.nilFunc],[]⟩),
  (256,⟨.slice 245,1,24,[.slice none 0 0],[]⟩),
  (257,⟨.other,1,8,[.nilFunc],[]⟩),
  (259,⟨.other,1,8,[.nilFunc],[]⟩),
  (260,⟨.other,1,8,[.nilFunc],[]⟩),
  (263,⟨.other,1,8,[.nilFunc],[]⟩),
  (264,⟨.other,1,8,[.nilFunc],[]⟩),
  (265,⟨.arr 20 145,20,160,[.int .u64 0,.int .u64 0,.int .u64 0,.int .u64 0,.int .u64 0,.int .u64 0,.int .u64 0,.int .u64 0,.int .u64 0,.int .u64 0,.int .u64 0,.int .u64 0,.int .u64 0,.int .u64 0,.int .u64 0,.int .u64 0,.int .u64 0,.int .u64 0,.int .u64 0,.int .u64 0],[]⟩),
  (266,⟨.arr 65 5,65,65,[.int .u8 0,.int .u8 0,.int .u8 0,.int .u8 0,.int .u8 0,.int .u8 0,.int .u8 0,.int .u8 0,.int .u8 0,.int .u8 0,.int .u8 0,.int .u8 0,.int .u8 0,.int .u8 0,.int .u8 0,.int .u8 0,.int .u8 0,.int .u8 0,.int .u8 0,.int .u8 0,.int .u8 0,.int .u8 0,.int .u8 0,.int .u8 0,.int .u8 0,.int .u8 0,.int .u8 0,.int .u8 0,.int .u8 0,.int .u8 0,.int .u8 0,.int .u8 0,.int .u8 0,.int .u8 0,.int .u8 0,.int .u8 0,.int .u8 0,.int .u8 0,.int .u8 0,.int .u8 0,.int .u8 0,.int .u8 0,.int .u8 0,.int .u8 0,.int .u8 0,.int .u8 0,.int .u8 0,.int .u8 0,.int .u8 0,.int .u8 0,.int .u8 0,.int .u8 0,.int .u8 0,.int .u8 0,.int .u8 0,.int .u8 0,.int .u8 0,.int .u8 0,.int .u8 0,.int .u8 0,.int .u8 0,.int .u8 0,.int .u8 0,.int .u8 0,.int .u8 0],[]⟩),
  (268,⟨.other,1,8,[.nilFunc],[]⟩),
  (269,⟨.other,1,8,[.nilFunc],[]⟩),
  (270,⟨.other,1,8,[.nilFunc],[]⟩),
  (271,⟨.other,1,8,[.nilFunc],[]⟩),
  (272,⟨.ptr 5,1,8,[.pointer none],[]⟩),
  (273,⟨.ptr 275,1,8,[.pointer none],[]⟩),
  (274,⟨.struct [(0,9)],1,16,[.string .empty],[.str]⟩),
  (275,⟨.struct [(0,9)],1,16,[.string .empty],[.str]⟩),
  (281,⟨.int .u8,1,1,[.int .u8 0],[]⟩),
  (282,⟨.int .u8,1,1,[.int .u8 0],[]⟩),
  (283,⟨.other,1,8,[.nilFunc],[]⟩),
  (284,⟨.int .i32,1,4,[.int .i32 0],[]⟩),
  (285,⟨.int .i32,1,4,[.int .i32 0],[]⟩),
  (286,⟨.struct [(0,12),(1,12),(2,142),(3,281),(4,5),(5,5),(6,282),(7,283),(8,272),(9,284),(10,285)],11,48,[.int .u64 0,.int .u64 0,.int .u32 0,.int .u8 0,.int .u8 0,.int .u8 0,.int .u8 0,.nilFunc,.pointer none,.int .i32 0,.int .i32 0],[]⟩),
  (287,⟨.struct [(0,12),(1,12),(2,142),(3,281),(4,5),(5,5),(6,282),(7,283),(8,272),(9,284),(10,285)],11,48,[.int .u64 0,.int .u64 0,.int .u32 0,.int .u8 0,.int .u8 0,.int .u8 0,.int .u8 0,.nilFunc,.pointer none,.int .i32 0,.int .i32 0],[]⟩)]
def T:TypeId→lA:=rZ Ei
theorem hT:mA Go.Proofs.Tryz.prog T:=KH (by kernel_rfl)
theorem hW:Gz T:=MK (by kernel_rfl)
@[simp] theorem t2:T 2=⟨.int .i64,1,8,[.int .i64 0],[]⟩:=by kernel_rfl
@[simp] theorem t3:T 3=⟨.int .i64,1,8,[.int .i64 0],[]⟩:=by kernel_rfl
@[simp] theorem t4:T 4=⟨.bool,1,1,[.bool false],[]⟩:=by kernel_rfl
@[simp] theorem t5:T 5=⟨.int .u8,1,1,[.int .u8 0],[]⟩:=by kernel_rfl
@[simp] theorem t6:T 6=⟨.int .u8,1,1,[.int .u8 0],[]⟩:=by kernel_rfl
@[simp] theorem t9:T 9=⟨.str,1,16,[.string .empty],[]⟩:=by kernel_rfl
@[simp] theorem Sj:T 10=⟨.str,1,16,[.string .empty],[]⟩:=by kernel_rfl
@[simp] theorem Sk:T 11=⟨.str,1,16,[.string .empty],[]⟩:=by kernel_rfl
@[simp] theorem Sl:T 12=⟨.int .u64,1,8,[.int .u64 0],[]⟩:=by kernel_rfl
@[simp] theorem t21:T 21=⟨.int .i32,1,4,[.int .i32 0],[]⟩:=by kernel_rfl
@[simp] theorem VB:T 22=⟨.slice 3,1,24,[.slice none 0 0],[]⟩:=by kernel_rfl
@[simp] theorem VC:T 23=⟨.other,1,8,[.nilFunc],[]⟩:=by kernel_rfl
@[simp] theorem VD:T 24=⟨.other,1,8,[.nilFunc],[]⟩:=by kernel_rfl
@[simp] theorem VE:T 25=⟨.slice 27,1,24,[.slice none 0 0],[]⟩:=by kernel_rfl
@[simp] theorem VF:T 26=⟨.struct [(0,3),(1,9),(2,3),(3,25)],4,56,[.int .i64 0,.string .empty,.int .i64 0,.slice none 0 0],[]⟩:=by kernel_rfl
@[simp] theorem VG:T 27=⟨.struct [(0,3),(1,9),(2,3),(3,25)],4,56,[.int .i64 0,.string .empty,.int .i64 0,.slice none 0 0],[]⟩:=by kernel_rfl
@[simp] theorem VH:T 28=⟨.other,1,8,[.nilFunc],[]⟩:=by kernel_rfl
@[simp] theorem VI:T 29=⟨.other,1,8,[.nilFunc],[]⟩:=by kernel_rfl
@[simp] theorem VJ:T 30=⟨.slice 9,1,24,[.slice none 0 0],[]⟩:=by kernel_rfl
@[simp] theorem VK:T 31=⟨.int .i64,1,8,[.int .i64 0],[]⟩:=by kernel_rfl
@[simp] theorem VL:T 33=⟨.other,1,8,[.nilFunc],[]⟩:=by kernel_rfl
@[simp] theorem VM:T 34=⟨.other,1,8,[.nilFunc],[]⟩:=by kernel_rfl
@[simp] theorem VN:T 35=⟨.other,1,8,[.nilFunc],[]⟩:=by kernel_rfl
@[simp] theorem VO:T 36=⟨.other,1,8,[.nilFunc],[]⟩:=by kernel_rfl
@[simp] theorem t37:T 37=⟨.other,1,8,[.nilFunc],[]⟩:=by kernel_rfl
@[simp] theorem VP:T 38=⟨.other,1,8,[.nilFunc],[]⟩:=by kernel_rfl
@[simp] theorem VQ:T 39=⟨.other,1,8,[.nilFunc],[]⟩:=by kernel_rfl
@[simp] theorem VR:T 40=⟨.other,1,8,[.nilFunc],[]⟩:=by kernel_rfl
@[simp] theorem VS:T 41=⟨.other,1,8,[.nilFunc],[]⟩:=by kernel_rfl
@[simp] theorem VT:T 42=⟨.other,1,8,[.nilFunc],[]⟩:=by kernel_rfl
@[simp] theorem VU:T 43=⟨.other,1,8,[.nilFunc],[]⟩:=by kernel_rfl
@[simp] theorem VV:T 44=⟨.slice 48,1,24,[.slice none 0 0],[]⟩:=by kernel_rfl
@[simp] theorem VW:T 45=⟨.other,1,8,[.nilFunc],[]⟩:=by kernel_rfl
@[simp] theorem VX:T 47=⟨.other,1,8,[.nilFunc],[]⟩:=by kernel_rfl
@[simp] theorem VY:T 48=⟨.slice 54,1,24,[.slice none 0 0],[]⟩:=by kernel_rfl
@[simp] theorem VZ:T 49=⟨.other,1,8,[.nilFunc],[]⟩:=by kernel_rfl
@[simp] theorem Wa:T 50=⟨.other,1,8,[.nilFunc],[]⟩:=by kernel_rfl
@[simp] theorem t51:T 51=⟨.other,1,8,[.nilFunc],[]⟩:=by kernel_rfl
@[simp] theorem Wc:T 52=⟨.other,1,8,[.nilFunc],[]⟩:=by kernel_rfl
@[simp] theorem t53:T 53=⟨.struct [(0,9),(1,9)],2,32,[.string .empty,.string .empty],[.str,.str]⟩:=by kernel_rfl
@[simp] theorem Wd:T 54=⟨.struct [(0,9),(1,9)],2,32,[.string .empty,.string .empty],[.str,.str]⟩:=by kernel_rfl
@[simp] theorem We:T 56=⟨.other,1,8,[.nilFunc],[]⟩:=by kernel_rfl
@[simp] theorem Wf:T 58=⟨.other,1,8,[.nilFunc],[]⟩:=by kernel_rfl
@[simp] theorem Wg:T 59=⟨.other,1,8,[.nilFunc],[]⟩:=by kernel_rfl
@[simp] theorem Wh:T 61=⟨.other,1,8,[.nilFunc],[]⟩:=by kernel_rfl
@[simp] theorem Wi:T 62=⟨.other,1,8,[.nilFunc],[]⟩:=by kernel_rfl
@[simp] theorem Wj:T 63=⟨.other,1,8,[.nilFunc],[]⟩:=by kernel_rfl
@[simp] theorem Wk:T 64=⟨.arr 16 5,16,16,[.int .u8 0,.int .u8 0,.int .u8 0,.int .u8 0,.int .u8 0,.int .u8 0,.int .u8 0,.int .u8 0,.int .u8 0,.int .u8 0,.int .u8 0,.int .u8 0,.int .u8 0,.int .u8 0,.int .u8 0,.int .u8 0],[]⟩:=by kernel_rfl
@[simp] theorem Wl:T 65=⟨.arr 16 5,16,16,[.int .u8 0,.int .u8 0,.int .u8 0,.int .u8 0,.int .u8 0,.int .u8 0,.int .u8 0,.int .u8 0,.int .u8 0,.int .u8 0,.int .u8 0,.int .u8 0,.int .u8 0,.int .u8 0,.int .u8 0,.int .u8 0],[]⟩:=by kernel_rfl
@[simp] theorem Wm:T 66=⟨.other,1,8,[.nilFunc],[]⟩:=by kernel_rfl
@[simp] theorem Wn:T 67=⟨.other,1,8,[.nilFunc],[]⟩:=by kernel_rfl
@[simp] theorem Wo:T 68=⟨.other,1,8,[.nilFunc],[]⟩:=by kernel_rfl
@[simp] theorem Wp:T 69=⟨.other,1,8,[.nilFunc],[]⟩:=by kernel_rfl
@[simp] theorem Wq:T 70=⟨.slice 74,1,24,[.slice none 0 0],[]⟩:=by kernel_rfl
@[simp] theorem Wr:T 72=⟨.other,1,8,[.nilFunc],[]⟩:=by kernel_rfl
@[simp] theorem Wu:T 73=⟨.struct [(0,3),(1,3)],2,16,[.int .i64 0,.int .i64 0],[.int .i64,.int .i64]⟩:=by kernel_rfl
@[simp] theorem Wv:T 74=⟨.struct [(0,3),(1,3)],2,16,[.int .i64 0,.int .i64 0],[.int .i64,.int .i64]⟩:=by kernel_rfl
@[simp] theorem t75:T 75=⟨.slice 5,1,24,[.slice none 0 0],[]⟩:=by kernel_rfl
@[simp] theorem t76:T 76=⟨.other,1,8,[.nilFunc],[]⟩:=by kernel_rfl
@[simp] theorem Ww:T 77=⟨.ptr 79,1,8,[.pointer none],[]⟩:=by kernel_rfl
@[simp] theorem Wx:T 78=⟨.struct [(0,22),(1,3)],2,32,[.slice none 0 0,.int .i64 0],[]⟩:=by kernel_rfl
@[simp] theorem Wy:T 79=⟨.struct [(0,22),(1,3)],2,32,[.slice none 0 0,.int .i64 0],[]⟩:=by kernel_rfl
@[simp] theorem Wz:T 80=⟨.other,1,8,[.nilFunc],[]⟩:=by kernel_rfl
@[simp] theorem WA:T 81=⟨.other,1,8,[.nilFunc],[]⟩:=by kernel_rfl
@[simp] theorem WB:T 82=⟨.other,1,8,[.nilFunc],[]⟩:=by kernel_rfl
@[simp] theorem WC:T 83=⟨.slice 91,1,24,[.slice none 0 0],[]⟩:=by kernel_rfl
@[simp] theorem t85:T 85=⟨.other,1,8,[.nilFunc],[]⟩:=by kernel_rfl
@[simp] theorem WD:T 86=⟨.ptr 88,1,8,[.pointer none],[]⟩:=by kernel_rfl
@[simp] theorem WE:T 87=⟨.struct [(0,83),(1,31)],2,32,[.slice none 0 0,.int .i64 0],[]⟩:=by kernel_rfl
@[simp] theorem WF:T 88=⟨.struct [(0,83),(1,31)],2,32,[.slice none 0 0,.int .i64 0],[]⟩:=by kernel_rfl
@[simp] theorem WG:T 89=⟨.other,1,8,[.nilFunc],[]⟩:=by kernel_rfl
@[simp] theorem WH:T 90=⟨.struct [(0,9),(1,3)],2,24,[.string .empty,.int .i64 0],[.str,.int .i64]⟩:=by kernel_rfl
@[simp] theorem WI:T 91=⟨.struct [(0,9),(1,3)],2,24,[.string .empty,.int .i64 0],[.str,.int .i64]⟩:=by kernel_rfl
@[simp] theorem WJ:T 92=⟨.other,1,8,[.nilFunc],[]⟩:=by kernel_rfl
@[simp] theorem WK:T 93=⟨.other,1,8,[.nilFunc],[]⟩:=by kernel_rfl
@[simp] theorem WL:T 95=⟨.other,1,8,[.nilFunc],[]⟩:=by kernel_rfl
@[simp] theorem WM:T 96=⟨.other,1,8,[.nilFunc],[]⟩:=by kernel_rfl
@[simp] theorem WN:T 97=⟨.other,1,8,[.nilFunc],[]⟩:=by kernel_rfl
@[simp] theorem WO:T 98=⟨.other,1,8,[.nilFunc],[]⟩:=by kernel_rfl
@[simp] theorem WP:T 99=⟨.other,1,8,[.nilFunc],[]⟩:=by kernel_rfl
@[simp] theorem Sr:T 100=⟨.arr 26 9,26,416,[.string .empty,.string .empty,.string .empty,.string .empty,.string .empty,.string .empty,.string .empty,.string .empty,.string .empty,.string .empty,.string .empty,.string .empty,.string .empty,.string .empty,.string .empty,.string .empty,.string .empty,.string .empty,.string .empty,.string .empty,.string .empty,.string .empty,.string .empty,.string .empty,.string .empty,.string .empty],[]⟩:=by kernel_rfl
@[simp] theorem Ss:T 101=⟨.other,1,8,[.nilFunc],[]⟩:=by kernel_rfl
@[simp] theorem St:T 102=⟨.other,1,8,[.nilFunc],[]⟩:=by kernel_rfl
@[simp] theorem Su:T 103=⟨.other,1,8,[.nilFunc],[]⟩:=by kernel_rfl
@[simp] theorem Sv:T 104=⟨.map 9 3,1,8,[.map none],[]⟩:=by kernel_rfl
@[simp] theorem Sw:T 105=⟨.struct [(0,25),(1,104)],2,32,[.slice none 0 0,.map none],[]⟩:=by kernel_rfl
@[simp] theorem Sx:T 106=⟨.struct [(0,25),(1,104)],2,32,[.slice none 0 0,.map none],[]⟩:=by kernel_rfl
@[simp] theorem Sy:T 108=⟨.other,1,8,[.nilFunc],[]⟩:=by kernel_rfl
@[simp] theorem Sz:T 109=⟨.other,1,8,[.nilFunc],[]⟩:=by kernel_rfl
@[simp] theorem SA:T 110=⟨.other,1,8,[.nilFunc],[]⟩:=by kernel_rfl
@[simp] theorem SB:T 111=⟨.other,1,8,[.nilFunc],[]⟩:=by kernel_rfl
@[simp] theorem SC:T 112=⟨.other,1,8,[.nilFunc],[]⟩:=by kernel_rfl
@[simp] theorem SD:T 113=⟨.other,1,8,[.nilFunc],[]⟩:=by kernel_rfl
@[simp] theorem SE:T 114=⟨.other,1,8,[.nilFunc],[]⟩:=by kernel_rfl
@[simp] theorem SF:T 115=⟨.other,1,8,[.nilFunc],[]⟩:=by kernel_rfl
@[simp] theorem SG:T 116=⟨.other,1,8,[.nilFunc],[]⟩:=by kernel_rfl
@[simp] theorem SH:T 117=⟨.other,1,8,[.nilFunc],[]⟩:=by kernel_rfl
@[simp] theorem SI:T 118=⟨.other,1,8,[.nilFunc],[]⟩:=by kernel_rfl
@[simp] theorem SJ:T 119=⟨.other,1,8,[.nilFunc],[]⟩:=by kernel_rfl
@[simp] theorem SK:T 120=⟨.map 9 4,1,8,[.map none],[]⟩:=by kernel_rfl
@[simp] theorem SL:T 121=⟨.other,1,8,[.nilFunc],[]⟩:=by kernel_rfl
@[simp] theorem SM:T 122=⟨.other,1,8,[.nilFunc],[]⟩:=by kernel_rfl
@[simp] theorem SN:T 123=⟨.other,1,8,[.nilFunc],[]⟩:=by kernel_rfl
@[simp] theorem SO:T 124=⟨.struct [(0,3),(1,9),(2,9)],3,40,[.int .i64 0,.string .empty,.string .empty],[.int .i64,.str,.str]⟩:=by kernel_rfl
@[simp] theorem SP:T 125=⟨.struct [(0,3),(1,9),(2,9)],3,40,[.int .i64 0,.string .empty,.string .empty],[.int .i64,.str,.str]⟩:=by kernel_rfl
@[simp] theorem SQ:T 126=⟨.other,1,8,[.nilFunc],[]⟩:=by kernel_rfl
@[simp] theorem t127:T 127=⟨.other,1,8,[.nilFunc],[]⟩:=by kernel_rfl
@[simp] theorem SR:T 128=⟨.other,1,8,[.nilFunc],[]⟩:=by kernel_rfl
@[simp] theorem SS:T 129=⟨.other,1,8,[.nilFunc],[]⟩:=by kernel_rfl
@[simp] theorem ST:T 130=⟨.other,1,8,[.nilFunc],[]⟩:=by kernel_rfl
@[simp] theorem SU:T 131=⟨.slice 134,1,24,[.slice none 0 0],[]⟩:=by kernel_rfl
@[simp] theorem SV:T 132=⟨.other,1,8,[.nilFunc],[]⟩:=by kernel_rfl
@[simp] theorem SW:T 133=⟨.struct [(0,3),(1,3),(2,9),(3,9)],4,48,[.int .i64 0,.int .i64 0,.string .empty,.string .empty],[.int .i64,.int .i64,.str,.str]⟩:=by kernel_rfl
@[simp] theorem SX:T 134=⟨.struct [(0,3),(1,3),(2,9),(3,9)],4,48,[.int .i64 0,.int .i64 0,.string .empty,.string .empty],[.int .i64,.int .i64,.str,.str]⟩:=by kernel_rfl
@[simp] theorem SY:T 136=⟨.map 3 4,1,8,[.map none],[]⟩:=by kernel_rfl
@[simp] theorem SZ:T 137=⟨.other,1,8,[.nilFunc],[]⟩:=by kernel_rfl
@[simp] theorem Ta:T 138=⟨.other,1,8,[.nilFunc],[]⟩:=by kernel_rfl
@[simp] theorem Tb:T 139=⟨.other,1,8,[.nilFunc],[]⟩:=by kernel_rfl
@[simp] theorem Tc:T 140=⟨.other,1,8,[.nilFunc],[]⟩:=by kernel_rfl
@[simp] theorem Td:T 141=⟨.other,1,8,[.nilFunc],[]⟩:=by kernel_rfl
@[simp] theorem Te:T 142=⟨.int .u32,1,4,[.int .u32 0],[]⟩:=by kernel_rfl
@[simp] theorem t143:T 143=⟨.arr 8 142,8,32,[.int .u32 0,.int .u32 0,.int .u32 0,.int .u32 0,.int .u32 0,.int .u32 0,.int .u32 0,.int .u32 0],[]⟩:=by kernel_rfl
@[simp] theorem Tf:T 144=⟨.arr 64 5,64,64,[.int .u8 0,.int .u8 0,.int .u8 0,.int .u8 0,.int .u8 0,.int .u8 0,.int .u8 0,.int .u8 0,.int .u8 0,.int .u8 0,.int .u8 0,.int .u8 0,.int .u8 0,.int .u8 0,.int .u8 0,.int .u8 0,.int .u8 0,.int .u8 0,.int .u8 0,.int .u8 0,.int .u8 0,.int .u8 0,.int .u8 0,.int .u8 0,.int .u8 0,.int .u8 0,.int .u8 0,.int .u8 0,.int .u8 0,.int .u8 0,.int .u8 0,.int .u8 0,.int .u8 0,.int .u8 0,.int .u8 0,.int .u8 0,.int .u8 0,.int .u8 0,.int .u8 0,.int .u8 0,.int .u8 0,.int .u8 0,.int .u8 0,.int .u8 0,.int .u8 0,.int .u8 0,.int .u8 0,.int .u8 0,.int .u8 0,.int .u8 0,.int .u8 0,.int .u8 0,.int .u8 0,.int .u8 0,.int .u8 0,.int .u8 0,.int .u8 0,.int .u8 0,.int .u8 0,.int .u8 0,.int .u8 0,.int .u8 0,.int .u8 0,.int .u8 0],[]⟩:=by kernel_rfl
@[simp] theorem t145:T 145=⟨.int .u64,1,8,[.int .u64 0],[]⟩:=by kernel_rfl
@[simp] theorem Tg:T 146=⟨.struct [(0,143),(8,144),(72,145)],73,104,[.int .u32 0,.int .u32 0,.int .u32 0,.int .u32 0,.int .u32 0,.int .u32 0,.int .u32 0,.int .u32 0,.int .u8 0,.int .u8 0,.int .u8 0,.int .u8 0,.int .u8 0,.int .u8 0,.int .u8 0,.int .u8 0,.int .u8 0,.int .u8 0,.int .u8 0,.int .u8 0,.int .u8 0,.int .u8 0,.int .u8 0,.int .u8 0,.int .u8 0,.int .u8 0,.int .u8 0,.int .u8 0,.int .u8 0,.int .u8 0,.int .u8 0,.int .u8 0,.int .u8 0,.int .u8 0,.int .u8 0,.int .u8 0,.int .u8 0,.int .u8 0,.int .u8 0,.int .u8 0,.int .u8 0,.int .u8 0,.int .u8 0,.int .u8 0,.int .u8 0,.int .u8 0,.int .u8 0,.int .u8 0,.int .u8 0,.int .u8 0,.int .u8 0,.int .u8 0,.int .u8 0,.int .u8 0,.int .u8 0,.int .u8 0,.int .u8 0,.int .u8 0,.int .u8 0,.int .u8 0,.int .u8 0,.int .u8 0,.int .u8 0,.int .u8 0,.int .u8 0,.int .u8 0,.int .u8 0,.int .u8 0,.int .u8 0,.int .u8 0,.int .u8 0,.int .u8 0,.int .u64 0],[]⟩:=by kernel_rfl
@[simp] theorem Th:T 147=⟨.struct [(0,143),(8,144),(72,145)],73,104,[.int .u32 0,.int .u32 0,.int .u32 0,.int .u32 0,.int .u32 0,.int .u32 0,.int .u32 0,.int .u32 0,.int .u8 0,.int .u8 0,.int .u8 0,.int .u8 0,.int .u8 0,.int .u8 0,.int .u8 0,.int .u8 0,.int .u8 0,.int .u8 0,.int .u8 0,.int .u8 0,.int .u8 0,.int .u8 0,.int .u8 0,.int .u8 0,.int .u8 0,.int .u8 0,.int .u8 0,.int .u8 0,.int .u8 0,.int .u8 0,.int .u8 0,.int .u8 0,.int .u8 0,.int .u8 0,.int .u8 0,.int .u8 0,.int .u8 0,.int .u8 0,.int .u8 0,.int .u8 0,.int .u8 0,.int .u8 0,.int .u8 0,.int .u8 0,.int .u8 0,.int .u8 0,.int .u8 0,.int .u8 0,.int .u8 0,.int .u8 0,.int .u8 0,.int .u8 0,.int .u8 0,.int .u8 0,.int .u8 0,.int .u8 0,.int .u8 0,.int .u8 0,.int .u8 0,.int .u8 0,.int .u8 0,.int .u8 0,.int .u8 0,.int .u8 0,.int .u8 0,.int .u8 0,.int .u8 0,.int .u8 0,.int .u8 0,.int .u8 0,.int .u8 0,.int .u8 0,.int .u64 0],[]⟩:=by kernel_rfl
@[simp] theorem Ti:T 148=⟨.other,1,8,[.nilFunc],[]⟩:=by kernel_rfl
@[simp] theorem Tj:T 149=⟨.other,1,8,[.nilFunc],[]⟩:=by kernel_rfl
@[simp] theorem Tl:T 150=⟨.other,1,8,[.nilFunc],[]⟩:=by kernel_rfl
@[simp] theorem Tm:T 151=⟨.arr 32 5,32,32,[.int .u8 0,.int .u8 0,.int .u8 0,.int .u8 0,.int .u8 0,.int .u8 0,.int .u8 0,.int .u8 0,.int .u8 0,.int .u8 0,.int .u8 0,.int .u8 0,.int .u8 0,.int .u8 0,.int .u8 0,.int .u8 0,.int .u8 0,.int .u8 0,.int .u8 0,.int .u8 0,.int .u8 0,.int .u8 0,.int .u8 0,.int .u8 0,.int .u8 0,.int .u8 0,.int .u8 0,.int .u8 0,.int .u8 0,.int .u8 0,.int .u8 0,.int .u8 0],[]⟩:=by kernel_rfl
@[simp] theorem Tn:T 152=⟨.other,1,8,[.nilFunc],[]⟩:=by kernel_rfl
@[simp] theorem To:T 153=⟨.other,1,8,[.nilFunc],[]⟩:=by kernel_rfl
@[simp] theorem Tp:T 154=⟨.other,1,8,[.nilFunc],[]⟩:=by kernel_rfl
@[simp] theorem Tq:T 155=⟨.other,1,8,[.nilFunc],[]⟩:=by kernel_rfl
@[simp] theorem Tr:T 156=⟨.other,1,8,[.nilFunc],[]⟩:=by kernel_rfl
@[simp] theorem Ts:T 157=⟨.other,1,8,[.nilFunc],[]⟩:=by kernel_rfl
@[simp] theorem Tt:T 158=⟨.other,1,8,[.nilFunc],[]⟩:=by kernel_rfl
@[simp] theorem Tu:T 159=⟨.other,1,8,[.nilFunc],[]⟩:=by kernel_rfl
@[simp] theorem Tv:T 160=⟨.other,1,8,[.nilFunc],[]⟩:=by kernel_rfl
@[simp] theorem Tw:T 161=⟨.other,1,8,[.nilFunc],[]⟩:=by kernel_rfl
@[simp] theorem Tx:T 162=⟨.other,1,8,[.nilFunc],[]⟩:=by kernel_rfl
@[simp] theorem Ty:T 163=⟨.other,1,8,[.nilFunc],[]⟩:=by kernel_rfl
@[simp] theorem TA:T 164=⟨.other,1,8,[.nilFunc],[]⟩:=by kernel_rfl
@[simp] theorem TB:T 165=⟨.int .u64,1,8,[.int .u64 0],[]⟩:=by kernel_rfl
@[simp] theorem TC:T 166=⟨.other,1,8,[.nilFunc],[]⟩:=by kernel_rfl
@[simp] theorem t167:T 167=⟨.other,1,8,[.nilFunc],[]⟩:=by kernel_rfl
@[simp] theorem t168:T 168=⟨.other,1,8,[.nilFunc],[]⟩:=by kernel_rfl
@[simp] theorem TD:T 169=⟨.other,1,8,[.nilFunc],[]⟩:=by kernel_rfl
@[simp] theorem TE:T 170=⟨.map 3 3,1,8,[.map none],[]⟩:=by kernel_rfl
@[simp] theorem t171:T 171=⟨.other,1,8,[.nilFunc],[]⟩:=by kernel_rfl
@[simp] theorem t173:T 173=⟨.other,1,8,[.nilFunc],[]⟩:=by kernel_rfl
@[simp] theorem TF:T 174=⟨.other,1,8,[.nilFunc],[]⟩:=by kernel_rfl
@[simp] theorem t175:T 175=⟨.ptr 177,1,8,[.pointer none],[]⟩:=by kernel_rfl
@[simp] theorem TG:T 176=⟨.struct [(0,9),(1,70),(2,3),(3,4),(4,4)],5,56,[.string .empty,.slice none 0 0,.int .i64 0,.bool false,.bool false],[]⟩:=by kernel_rfl
@[simp] theorem TH:T 177=⟨.struct [(0,9),(1,70),(2,3),(3,4),(4,4)],5,56,[.string .empty,.slice none 0 0,.int .i64 0,.bool false,.bool false],[]⟩:=by kernel_rfl
@[simp] theorem TI:T 179=⟨.other,1,8,[.nilFunc],[]⟩:=by kernel_rfl
@[simp] theorem TJ:T 180=⟨.other,1,8,[.nilFunc],[]⟩:=by kernel_rfl
@[simp] theorem TM:T 181=⟨.other,1,8,[.nilFunc],[]⟩:=by kernel_rfl
@[simp] theorem TN:T 182=⟨.arr 3 9,3,48,[.string .empty,.string .empty,.string .empty],[]⟩:=by kernel_rfl
@[simp] theorem TO:T 183=⟨.slice 182,1,24,[.slice none 0 0],[]⟩:=by kernel_rfl
@[simp] theorem TP:T 184=⟨.other,1,8,[.nilFunc],[]⟩:=by kernel_rfl
@[simp] theorem TQ:T 185=⟨.other,1,8,[.nilFunc],[]⟩:=by kernel_rfl
@[simp] theorem TS:T 186=⟨.other,1,8,[.nilFunc],[]⟩:=by kernel_rfl
@[simp] theorem TT:T 187=⟨.other,1,8,[.nilFunc],[]⟩:=by kernel_rfl
@[simp] theorem TU:T 188=⟨.other,1,8,[.nilFunc],[]⟩:=by kernel_rfl
@[simp] theorem TV:T 189=⟨.other,1,8,[.nilFunc],[]⟩:=by kernel_rfl
@[simp] theorem TW:T 190=⟨.other,1,8,[.nilFunc],[]⟩:=by kernel_rfl
@[simp] theorem TX:T 194=⟨.other,1,8,[.nilFunc],[]⟩:=by kernel_rfl
@[simp] theorem TY:T 195=⟨.arr 2 3,2,16,[.int .i64 0,.int .i64 0],[]⟩:=by kernel_rfl
@[simp] theorem TZ:T 196=⟨.arr 37 195,74,592,[.int .i64 0,.int .i64 0,.int .i64 0,.int .i64 0,.int .i64 0,.int .i64 0,.int .i64 0,.int .i64 0,.int .i64 0,.int .i64 0,.int .i64 0,.int .i64 0,.int .i64 0,.int .i64 0,.int .i64 0,.int .i64 0,.int .i64 0,.int .i64 0,.int .i64 0,.int .i64 0,.int .i64 0,.int .i64 0,.int .i64 0,.int .i64 0,.int .i64 0,.int .i64 0,.int .i64 0,.int .i64 0,.int .i64 0,.int .i64 0,.int .i64 0,.int .i64 0,.int .i64 0,.int .i64 0,.int .i64 0,.int .i64 0,.int .i64 0,.int .i64 0,.int .i64 0,.int .i64 0,.int .i64 0,.int .i64 0,.int .i64 0,.int .i64 0,.int .i64 0,.int .i64 0,.int .i64 0,.int .i64 0,.int .i64 0,.int .i64 0,.int .i64 0,.int .i64 0,.int .i64 0,.int .i64 0,.int .i64 0,.int .i64 0,.int .i64 0,.int .i64 0,.int .i64 0,.int .i64 0,.int .i64 0,.int .i64 0,.int .i64 0,.int .i64 0,.int .i64 0,.int .i64 0,.int .i64 0,.int .i64 0,.int .i64 0,.int .i64 0,.int .i64 0,.int .i64 0,.int .i64 0,.int .i64 0],[]⟩:=by kernel_rfl
@[simp] theorem Ua:T 197=⟨.other,1,8,[.nilFunc],[]⟩:=by kernel_rfl
@[simp] theorem Ub:T 198=⟨.int .i64,1,8,[.int .i64 0],[]⟩:=by kernel_rfl
@[simp] theorem Uc:T 200=⟨.other,1,8,[.nilFunc],[]⟩:=by kernel_rfl
@[simp] theorem Ud:T 201=⟨.other,1,8,[.nilFunc],[]⟩:=by kernel_rfl
@[simp] theorem Ue:T 202=⟨.other,1,8,[.nilFunc],[]⟩:=by kernel_rfl
@[simp] theorem Uf:T 203=⟨.other,1,8,[.nilFunc],[]⟩:=by kernel_rfl
@[simp] theorem Ug:T 204=⟨.other,1,8,[.nilFunc],[]⟩:=by kernel_rfl
@[simp] theorem Uh:T 205=⟨.other,1,8,[.nilFunc],[]⟩:=by kernel_rfl
@[simp] theorem Ui:T 206=⟨.other,1,8,[.nilFunc],[]⟩:=by kernel_rfl
@[simp] theorem Uj:T 207=⟨.map 31 3,1,8,[.map none],[]⟩:=by kernel_rfl
@[simp] theorem Uk:T 208=⟨.other,1,8,[.nilFunc],[]⟩:=by kernel_rfl
@[simp] theorem Ul:T 209=⟨.other,1,8,[.nilFunc],[]⟩:=by kernel_rfl
@[simp] theorem t210:T 210=⟨.other,1,8,[.nilFunc],[]⟩:=by kernel_rfl
@[simp] theorem Um:T 211=⟨.other,1,8,[.nilFunc],[]⟩:=by kernel_rfl
@[simp] theorem t212:T 212=⟨.other,1,8,[.nilFunc],[]⟩:=by kernel_rfl
@[simp] theorem t213:T 213=⟨.other,1,8,[.nilFunc],[]⟩:=by kernel_rfl
@[simp] theorem Un:T 214=⟨.other,1,8,[.nilFunc],[]⟩:=by kernel_rfl
@[simp] theorem Uo:T 215=⟨.arr 64 142,64,256,[.int .u32 0,.int .u32 0,.int .u32 0,.int .u32 0,.int .u32 0,.int .u32 0,.int .u32 0,.int .u32 0,.int .u32 0,.int .u32 0,.int .u32 0,.int .u32 0,.int .u32 0,.int .u32 0,.int .u32 0,.int .u32 0,.int .u32 0,.int .u32 0,.int .u32 0,.int .u32 0,.int .u32 0,.int .u32 0,.int .u32 0,.int .u32 0,.int .u32 0,.int .u32 0,.int .u32 0,.int .u32 0,.int .u32 0,.int .u32 0,.int .u32 0,.int .u32 0,.int .u32 0,.int .u32 0,.int .u32 0,.int .u32 0,.int .u32 0,.int .u32 0,.int .u32 0,.int .u32 0,.int .u32 0,.int .u32 0,.int .u32 0,.int .u32 0,.int .u32 0,.int .u32 0,.int .u32 0,.int .u32 0,.int .u32 0,.int .u32 0,.int .u32 0,.int .u32 0,.int .u32 0,.int .u32 0,.int .u32 0,.int .u32 0,.int .u32 0,.int .u32 0,.int .u32 0,.int .u32 0,.int .u32 0,.int .u32 0,.int .u32 0,.int .u32 0],[]⟩:=by kernel_rfl
@[simp] theorem Up:T 216=⟨.other,1,8,[.nilFunc],[]⟩:=by kernel_rfl
@[simp] theorem Uq:T 217=⟨.arr 4 142,4,16,[.int .u32 0,.int .u32 0,.int .u32 0,.int .u32 0],[]⟩:=by kernel_rfl
@[simp] theorem Ur:T 218=⟨.slice 142,1,24,[.slice none 0 0],[]⟩:=by kernel_rfl
@[simp] theorem Us:T 219=⟨.other,1,8,[.nilFunc],[]⟩:=by kernel_rfl
@[simp] theorem Ut:T 220=⟨.other,1,8,[.nilFunc],[]⟩:=by kernel_rfl
@[simp] theorem Uu:T 221=⟨.ptr 27,1,8,[.pointer none],[]⟩:=by kernel_rfl
@[simp] theorem Uv:T 222=⟨.other,1,8,[.nilFunc],[]⟩:=by kernel_rfl
@[simp] theorem Uw:T 223=⟨.other,1,8,[.nilFunc],[]⟩:=by kernel_rfl
@[simp] theorem Ux:T 224=⟨.other,1,8,[.nilFunc],[]⟩:=by kernel_rfl
@[simp] theorem Uy:T 225=⟨.other,1,8,[.nilFunc],[]⟩:=by kernel_rfl
@[simp] theorem Uz:T 226=⟨.other,1,8,[.nilFunc],[]⟩:=by kernel_rfl
@[simp] theorem UA:T 227=⟨.int .u64,1,8,[.int .u64 0],[]⟩:=by kernel_rfl
@[simp] theorem UB:T 228=⟨.other,1,8,[.nilFunc],[]⟩:=by kernel_rfl
@[simp] theorem UC:T 229=⟨.other,1,8,[.nilFunc],[]⟩:=by kernel_rfl
@[simp] theorem UD:T 230=⟨.other,1,8,[.nilFunc],[]⟩:=by kernel_rfl
@[simp] theorem UE:T 231=⟨.ptr 3,1,8,[.pointer none],[]⟩:=by kernel_rfl
@[simp] theorem t232:T 232=⟨.other,1,8,[.nilFunc],[]⟩:=by kernel_rfl
@[simp] theorem t233:T 233=⟨.other,1,8,[.nilFunc],[]⟩:=by kernel_rfl
@[simp] theorem UF:T 234=⟨.other,1,8,[.nilFunc],[]⟩:=by kernel_rfl
@[simp] theorem UG:T 236=⟨.other,1,8,[.nilFunc],[]⟩:=by kernel_rfl
@[simp] theorem UH:T 237=⟨.int .i64,1,8,[.int .i64 0],[]⟩:=by kernel_rfl
@[simp] theorem UI:T 239=⟨.other,1,8,[.nilFunc],[]⟩:=by kernel_rfl
@[simp] theorem UJ:T 240=⟨.ptr 262,1,8,[.pointer none],[]⟩:=by kernel_rfl
@[simp] theorem UK:T 241=⟨.other,1,8,[.nilFunc],[]⟩:=by kernel_rfl
@[simp] theorem UL:T 242=⟨.other,1,8,[.nilFunc],[]⟩:=by kernel_rfl
@[simp] theorem UM:T 243=⟨.slice 138,1,24,[.slice none 0 0],[]⟩:=by kernel_rfl
@[simp] theorem UN:T 244=⟨.struct [(0,9),(1,3)],2,24,[.string .empty,.int .i64 0],[.str,.int .i64]⟩:=by kernel_rfl
@[simp] theorem UO:T 245=⟨.struct [(0,9),(1,3)],2,24,[.string .empty,.int .i64 0],[.str,.int .i64]⟩:=by kernel_rfl
@[simp] theorem UP:T 246=⟨.arr 6 245,12,144,[.string .empty,.int .i64 0,.string .empty,.int .i64 0,.string .empty,.int .i64 0,.string .empty,.int .i64 0,.string .empty,.int .i64 0,.string .empty,.int .i64 0],[.str,.int .i64,.str,.int .i64,.str,.int .i64,.str,.int .i64,.str,.int .i64,.str,.int .i64]⟩:=by kernel_rfl
@[simp] theorem UQ:T 247=⟨.arr 24 5,24,24,[.int .u8 0,.int .u8 0,.int .u8 0,.int .u8 0,.int .u8 0,.int .u8 0,.int .u8 0,.int .u8 0,.int .u8 0,.int .u8 0,.int .u8 0,.int .u8 0,.int .u8 0,.int .u8 0,.int .u8 0,.int .u8 0,.int .u8 0,.int .u8 0,.int .u8 0,.int .u8 0,.int .u8 0,.int .u8 0,.int .u8 0,.int .u8 0],[]⟩:=by kernel_rfl
@[simp] theorem UR:T 248=⟨.other,1,8,[.nilFunc],[]⟩:=by kernel_rfl
@[simp] theorem US:T 250=⟨.other,1,8,[.nilFunc],[]⟩:=by kernel_rfl
@[simp] theorem UT:T 251=⟨.ptr 227,1,8,[.pointer none],[]⟩:=by kernel_rfl
@[simp] theorem UU:T 253=⟨.other,1,8,[.nilFunc],[]⟩:=by kernel_rfl
@[simp] theorem UV:T 254=⟨.other,1,8,[.nilFunc],[]⟩:=by kernel_rfl
@[simp] theorem UW:T 255=⟨.other,1,8,[.nilFunc],[]⟩:=by kernel_rfl
@[simp] theorem UX:T 256=⟨.slice 245,1,24,[.slice none 0 0],[]⟩:=by kernel_rfl
@[simp] theorem UY:T 257=⟨.other,1,8,[.nilFunc],[]⟩:=by kernel_rfl
@[simp] theorem UZ:T 259=⟨.other,1,8,[.nilFunc],[]⟩:=by kernel_rfl
@[simp] theorem Va:T 260=⟨.other,1,8,[.nilFunc],[]⟩:=by kernel_rfl
@[simp] theorem Vb:T 263=⟨.other,1,8,[.nilFunc],[]⟩:=by kernel_rfl
@[simp] theorem Vc:T 264=⟨.other,1,8,[.nilFunc],[]⟩:=by kernel_rfl
@[simp] theorem Vd:T 265=⟨.arr 20 145,20,160,[.int .u64 0,.int .u64 0,.int .u64 0,.int .u64 0,.int .u64 0,.int .u64 0,.int .u64 0,.int .u64 0,.int .u64 0,.int .u64 0,.int .u64 0,.int .u64 0,.int .u64 0,.int .u64 0,.int .u64 0,.int .u64 0,.int .u64 0,.int .u64 0,.int .u64 0,.int .u64 0],[]⟩:=by kernel_rfl
@[simp] theorem Ve:T 266=⟨.arr 65 5,65,65,[.int .u8 0,.int .u8 0,.int .u8 0,.int .u8 0,.int .u8 0,.int .u8 0,.int .u8 0,.int .u8 0,.int .u8 0,.int .u8 0,.int .u8 0,.int .u8 0,.int .u8 0,.int .u8 0,.int .u8 0,.int .u8 0,.int .u8 0,.int .u8 0,.int .u8 0,.int .u8 0,.int .u8 0,.int .u8 0,.int .u8 0,.int .u8 0,.int .u8 0,.int .u8 0,.int .u8 0,.int .u8 0,.int .u8 0,.int .u8 0,.int .u8 0,.int .u8 0,.int .u8 0,.int .u8 0,.int .u8 0,.int .u8 0,.int .u8 0,.int .u8 0,.int .u8 0,.int .u8 0,.int .u8 0,.int .u8 0,.int .u8 0,.int .u8 0,.int .u8 0,.int .u8 0,.int .u8 0,.int .u8 0,.int .u8 0,.int .u8 0,.int .u8 0,.int .u8 0,.int .u8 0,.int .u8 0,.int .u8 0,.int .u8 0,.int .u8 0,.int .u8 0,.int .u8 0,.int .u8 0,.int .u8 0,.int .u8 0,.int .u8 0,.int .u8 0,.int .u8 0],[]⟩:=by kernel_rfl
@[simp] theorem Vf:T 268=⟨.other,1,8,[.nilFunc],[]⟩:=by kernel_rfl
@[simp] theorem Vg:T 269=⟨.other,1,8,[.nilFunc],[]⟩:=by kernel_rfl
@[simp] theorem Vh:T 270=⟨.other,1,8,[.nilFunc],[]⟩:=by kernel_rfl
@[simp] theorem Vi:T 271=⟨.other,1,8,[.nilFunc],[]⟩:=by kernel_rfl
@[simp] theorem Vj:T 272=⟨.ptr 5,1,8,[.pointer none],[]⟩:=by kernel_rfl
@[simp] theorem Vk:T 273=⟨.ptr 275,1,8,[.pointer none],[]⟩:=by kernel_rfl
@[simp] theorem Vl:T 274=⟨.struct [(0,9)],1,16,[.string .empty],[.str]⟩:=by kernel_rfl
@[simp] theorem Vm:T 275=⟨.struct [(0,9)],1,16,[.string .empty],[.str]⟩:=by kernel_rfl
@[simp] theorem Vn:T 281=⟨.int .u8,1,1,[.int .u8 0],[]⟩:=by kernel_rfl
@[simp] theorem Vo:T 282=⟨.int .u8,1,1,[.int .u8 0],[]⟩:=by kernel_rfl
@[simp] theorem Vp:T 283=⟨.other,1,8,[.nilFunc],[]⟩:=by kernel_rfl
@[simp] theorem Vq:T 284=⟨.int .i32,1,4,[.int .i32 0],[]⟩:=by kernel_rfl
@[simp] theorem Vr:T 285=⟨.int .i32,1,4,[.int .i32 0],[]⟩:=by kernel_rfl
@[simp] theorem Vs:T 286=⟨.struct [(0,12),(1,12),(2,142),(3,281),(4,5),(5,5),(6,282),(7,283),(8,272),(9,284),(10,285)],11,48,[.int .u64 0,.int .u64 0,.int .u32 0,.int .u8 0,.int .u8 0,.int .u8 0,.int .u8 0,.nilFunc,.pointer none,.int .i32 0,.int .i32 0],[]⟩:=by kernel_rfl
@[simp] theorem Vt:T 287=⟨.struct [(0,12),(1,12),(2,142),(3,281),(4,5),(5,5),(6,282),(7,283),(8,272),(9,284),(10,285)],11,48,[.int .u64 0,.int .u64 0,.int .u32 0,.int .u8 0,.int .u8 0,.int .u8 0,.int .u8 0,.nilFunc,.pointer none,.int .i32 0,.int .i32 0],[]⟩:=by kernel_rfl
end Go.Eng
namespace Go.Eng
section
variable{P:Program} {T:TypeId→lA} {N:Nat} {w0:iU} {X:Nat→Prop} {Q:LX→mI→kV→Prop} {env:mI} {H:kV}
theorem Nj(hT:mA P T)(hW:Gz T){id:Nat}{l:List Oper}(h:(mW P T N l (fun _=>none) env H).ok∧Q .normal (mW P T N l (fun _=>none) env H).env (mW P T N l (fun _=>none) env H).H):
 oS P N w0 X (.region id l.toArray false) Q env H:=FF hT hW (fun _=>none) (fun _=>⟨rfl,fun _ h=>h⟩) h
theorem oS.ro(hT:mA P T)(hW:Gz T){id:Nat}{l:List Oper}(orc:Nat→Option sH)(h:(mW P T N l orc env H).ok∧Q .normal (mW P T N l orc env H).env (mW P T N l orc env H).H)
 (hdet:∀d,Is (orc d):=by intro d;first|exact⟨rfl,fun _ h=>h⟩|(split<;>exact⟨rfl,fun _ h=>h⟩)):oS P N w0 X (.region id l.toArray false) Q env H:=FF hT hW orc hdet h
theorem QE(hT:mA P T)(hW:Gz T){id:Nat}{l:List Oper}{y:Code}(h:(mW P T N l (fun _=>none) env H).ok∧sT (oS P N w0 X y Q) Q .normal (mW P T N l (fun _=>none) env H).env (mW P T N l (fun _=>none) env H).H):
 oS P N w0 X (.seq (.region id l.toArray false) y) Q env H:=oS.seq (Nj hT hW h)
theorem bY(hT:mA P T)(hW:Gz T){id:Nat}{l:List Oper}{y:Code}(orc:Nat→Option sH)(h:(mW P T N l orc env H).ok∧sT (oS P N w0 X y Q) Q .normal (mW P T N l orc env H).env (mW P T N l orc env H).H)
 (hdet:∀d,Is (orc d):=by intro d;first|exact⟨rfl,fun _ h=>h⟩|(split<;>exact⟨rfl,fun _ h=>h⟩)):oS P N w0 X (.seq (.region id l.toArray false) y) Q env H:=oS.seq (oS.ro hT hW orc h hdet)
theorem oS.sy{id:Nat}{l:List Oper}{y:Code}(h:(mW Go.Proofs.Tryz.prog Eng.T N l (fun _=>none) env H).ok∧sT (oS Go.Proofs.Tryz.prog N w0 X y Q) Q .normal (mW Go.Proofs.Tryz.prog Eng.T N l (fun _=>none) env H).env (mW Go.Proofs.Tryz.prog Eng.T N l (fun _=>none) env H).H):
 oS Go.Proofs.Tryz.prog N w0 X (.seq (.region id l.toArray false) y) Q env H:=QE hT hW h
theorem aL{id:Nat}{l:List Oper}(h:(mW Go.Proofs.Tryz.prog Eng.T N l (fun _=>none) env H).ok∧Q .normal (mW Go.Proofs.Tryz.prog Eng.T N l (fun _=>none) env H).env (mW Go.Proofs.Tryz.prog Eng.T N l (fun _=>none) env H).H):
 oS Go.Proofs.Tryz.prog N w0 X (.region id l.toArray false) Q env H:=Nj hT hW h
end
end Go.Eng
namespace Go.Eng
open Go.Proofs
theorem bI:Tryz.prog.follows .mixedOrders=true:=by kernel_rfl
theorem rU(a b:Nm):(decide (a.who=b.who)&&decide (a.seq=b.seq))=decide (a=b):=by
 cases a;cases b;simp[Bool.decide_and]
theorem rV(a b:Df):(a.name==b.name&&a.text==b.text)=decide (a=b):=by
 cases a;cases b;simp[Bool.beq_eq_decide_eq]
attribute[local simp] mW kX iB bC mT fY hZ nM cN bG oZ.plain oZ.cond oZ.fail dP lW sT mM fP kN lG lH memless mF eJ iW tP Ee hO fI strip oL dV lK bU
 qC fQ iH iC iG oT lk cD dR bP bV bX nK eT oP iF iZ bS eK bK dG iA eV eW dW eX gF gG gH eY dX eZ dY fB gJ gK gN gO fC gR oK nH mkAgg sO AT jI bD hU aX.live TK.isNone TK.agg TK.isBool TK.isStr TK.isStruct Op.operands Call.operands
 bE cO cH cW eE nI lB cU dH iE eO kP aP frozen lI
 jM jN lC gD jP jQ jR jV lD gE jX jY jZ kC rJ lR nO nP nR nS nU kD jK gC eU Nm.d Df.d Ed.d xD xE nE xF jL rU rV dA dB
 xH xI rK xJ xK rL rM rN nV xL xM rO
 bT bA dJ lJ dK bR cB bM eN uF TK.isInt jO jW nQ gM hF dI eL eM fV eS fO lX sA nD wW rI
 nC kR mC mU cL eA dS kW jE jF iV sD gS cZ gT gU cD jT jU nN iI gV kE gP gQ fE
 cK gZ TK.isPtr eF bZ kF oU pR jS kA nT gI gL fD
attribute[local simp] dZ kG gW
section
attribute[local simp] oZ.cond Nd.d_eq nd_t nd_dr nd_td ndsD
structure BC where
 b:Bool
theorem Pm{a b:Nat}:(if a<b then(b:Int)else(a:Int))=((max a b:Nat):Int):=by split<;>omega
theorem oE{x:Nd}{i:Nat}(hi:i<x.kids.length):weighN x.kids[i]<weighN x:=by
 have:=weigh_mem (List.getElem_mem hi)
 rw[weighN_eq x];omega
theorem pN(x:Nd):x.kids.length<weighN x:=by
 have:=weigh_len (l:=x.kids)
 rw[weighN_eq x];omega
theorem sL(n m:Int)(h1: -9223372036854775808≤n)(h2:n≤9223372036854775807)(hm:m≠0):Ok Tryz.prog 27 [aC n,aC m] ⟨.d (aC (fJ n m)),true⟩:=by
 refine Ok.ret Tryz.func27 (by kernel_rfl) (c:=_) rfl Tryz.ntmps27 (by simp) Tryz.results27 (by intro _ h;cases h) fun w0 X hp=>?_
 refine oS.sy ?_
 simp
 refine oS.seq ?_
 refine oS.sy ?_
 simp
 refine aB ?_
 simp
 refine⟨fun h1=>?_,fun h1=>?_⟩
 ·refine aL ?_
  simp
  refine⟨by omega,?_⟩
  refine oS.sy ?_
  simp
  refine⟨hm,?_⟩
  refine oS.ret ?_
  simp[fJ,h1]
 ·refine oS.skip ?_
  simp
  refine oS.sy ?_
  simp
  refine⟨hm,?_⟩
  refine oS.ret ?_
  have:¬n<0:=by omega
  simp[fJ,this]
theorem Rv(l:List Int)(i m:Int)(hl:∀n∈l, -9223372036854775808≤n∧n≤9223372036854775807)(hm:m≠0):Ok Tryz.prog 63 [.sl (l.map aC),aC i,aC m] ⟨.d (aC (jH l i m)),true⟩:=by
 refine Ok.ret Tryz.func63 (by kernel_rfl) (c:=_) rfl Tryz.ntmps63 (by simp) Tryz.results63 (by intro _ h;cases h) fun w0 X hp=>?_
 refine oS.sy ?_
 simp
 refine oS.seq ?_
 refine oS.seq ?_
 refine oS.len (t:=0) rfl fun hlen=>?_
 simp at hlen
 refine aL ?_
 simp
 refine aB ?_
 simp
 refine⟨fun h1=>?_,fun h1 h2=>?_⟩
 ·refine oS.sy ?_
  simp
  refine oS.ret ?_
  simp[jH,h1]
 ·obtain⟨k,rfl⟩:=Int.eq_ofNat_of_zero_le h1
  have hi':k<l.length:=by omega
  refine oS.skip ?_
  simp
  refine bY hT hW (fun|20=>some<| .plain ⟨.d (aC (fJ l[k] m)),true⟩|_=>none) ?_
  simp[h2,hi']
  refine⟨sL _ _ (hl _ (List.getElem_mem hi')).1 (hl _ (List.getElem_mem hi')).2 hm,?_⟩
  refine oS.ret ?_
  simp[jH,hi']
  omega
theorem IU(x:Nd)(hw:weighN x≤1000000000)(ih:∀y∈x.kids,weighN y≤1000000000→Ok Tryz.prog 120 [y.d] ⟨.d (aC (depthN y)),true⟩):Ok Tryz.prog 120 [x.d] ⟨.d (aC (depthN x)),true⟩:=by
 refine Ok.ret Tryz.func120 (by kernel_rfl) (c:=_) rfl Tryz.ntmps120 (by simp) Tryz.results120 (by intro _ h;cases h) fun w0 X hp=>?_
 refine oS.sy ?_
 simp
 refine oS.sy ?_
 simp
 refine oS.seq ?_
 refine oS.sy ?_
 simp
 refine oS.block ?_
 refine cA (ι:=Nat) (fun i=>aY [(3,.d (aC (depthL (x.kids.take i)))),(7,.d (ndsD x.kids)),(8,.d (aC x.kids.length)),(9,.d (aC i))]) (fun i=>aK []) (fun i=>i≤x.kids.length) (fun i=>x.kids.length-i) 0 (aA [3,7,8,9] [] (by decide) (by decide) (by simp[hp]) (by simp[depthL]) (by simp)) (Nat.zero_le _) fun i hi3=>?_
 refine oS.sy ?_
 simp
 refine oS.seq ?_
 refine aB ?_
 simp
 refine⟨fun h3=>?_,fun h3=>?_⟩
 ·refine oS.skip ?_
  simp
  refine oS.seq ?_
  refine oS.block ?_
  refine oS.seq ?_
  have hi:i<x.kids.length:=by omega
  refine aL ?_
  simp[hi]
  have hk:=ih _ (List.getElem_mem hi) (by have:=oE hi;omega)
  refine oS.ro hT hW (fun|15=>some<| .plain ⟨.d (aC (depthN x.kids[i])),true⟩|_=>none) ?_
  simp
  refine⟨by simpa using hk,?_⟩
  have:=pN x
  refine aL ?_
  simp
  refine⟨by omega,?_⟩
  refine JK.mk (i+1) (aA [3,7,8,9] [] (by decide) (by decide) (by simp[hp]) (by simp[depthL_succ hi,Pm]) (by simp)) ?_ ?_
  ·omega
  ·omega
 ·refine oS.exit ?_
  simp
  refine oS.seq ?_
  have hi:i=x.kids.length:=by omega
  subst hi
  rw[List.take_length]
  have h1:=depth_size x
  have h2:=size_weigh x
  have h3:=depthN_eq x
  refine aL ?_
  simp
  refine⟨by omega,?_⟩
  refine oS.ret ?_
  simp[h3]
theorem Lg(x:Nd)(hw:weighN x≤1000000000)(ih:∀y∈x.kids,weighN y≤1000000000→Ok Tryz.prog 60 [y.d] ⟨.d (aC (sizeN y)),true⟩):Ok Tryz.prog 60 [x.d] ⟨.d (aC (sizeN x)),true⟩:=by
 refine Ok.ret Tryz.func60 (by kernel_rfl) (c:=_) rfl Tryz.ntmps60 (by simp) Tryz.results60 (by intro _ h;cases h) fun w0 X hp=>?_
 refine oS.sy ?_
 simp
 refine oS.sy ?_
 simp
 refine oS.seq ?_
 refine oS.sy ?_
 simp
 refine oS.block ?_
 refine cA (ι:=Nat) (fun i=>aY [(3,.d (aC ((1+sizeL (x.kids.take i):Nat):Int))),(7,.d (ndsD x.kids)),(8,.d (aC x.kids.length)),(9,.d (aC i))]) (fun i=>aK []) (fun i=>i≤x.kids.length) (fun i=>x.kids.length-i) 0 (aA [3,7,8,9] [] (by decide) (by decide) (by simp[hp]) (by simp[sizeL]) (by simp)) (Nat.zero_le _) fun i hi3=>?_
 refine oS.sy ?_
 simp
 refine oS.seq ?_
 refine aB ?_
 simp
 refine⟨fun h3=>?_,fun h3=>?_⟩
 ·refine oS.skip ?_
  simp
  refine oS.seq ?_
  refine oS.block ?_
  refine oS.seq ?_
  have hi:i<x.kids.length:=by omega
  refine aL ?_
  simp[hi]
  have hk:=ih _ (List.getElem_mem hi) (by have:=oE hi;omega)
  have q1:=sizeL_take_le (l:=x.kids) i
  have q2:=size_weigh x
  have q3:=size_weigh x.kids[i]
  have q4:=oE hi
  rw[sizeN_eq x]at q2
  refine oS.ro hT hW (fun|15=>some<| .plain ⟨.d (aC (sizeN x.kids[i])),true⟩|_=>none) ?_
  simp
  refine⟨⟨by simpa using hk,by omega⟩,?_⟩
  have:=pN x
  refine aL ?_
  simp
  refine⟨by omega,?_⟩
  refine JK.mk (i+1) (aA [3,7,8,9] [] (by decide) (by decide) (by simp[hp]) (by simp[sizeL_succ hi,Int.add_assoc]) (by simp)) ?_ ?_
  ·omega
  ·omega
 ·refine oS.exit ?_
  simp
  refine oS.sy ?_
  simp
  refine oS.ret ?_
  have hi:i=x.kids.length:=by omega
  subst hi
  rw[List.take_length,sizeN_eq x]
  simp[Int.add_comm]
theorem Nk(x:Nd)(hw:weighN x≤1000000000):Ok Tryz.prog 120 [x.d] ⟨.d (aC (depthN x)),true⟩:=by
 revert hw
 exact qX (p:=fun x=>weighN x≤1000000000→Ok Tryz.prog 120 [x.d] ⟨.d (aC (depthN x)),true⟩) (fun k t n ks ih hw=>IU _ hw ih) x
theorem Pn(x:Nd)(hw:weighN x≤1000000000):Ok Tryz.prog 60 [x.d] ⟨.d (aC (sizeN x)),true⟩:=by
 revert hw
 exact qX (p:=fun x=>weighN x≤1000000000→Ok Tryz.prog 60 [x.d] ⟨.d (aC (sizeN x)),true⟩) (fun k t n ks ih hw=>Lg _ hw ih) x
end
open Go.Proofs
section
attribute[local simp] oZ.cond Nd.d_eq nd_t nd_dr nd_td ndsD
def vY{α:Type}(p:α→Bool)(l:List α):Int:=match l.findIdx? p with|some i=>i|none=> -1
theorem Bk{α:Type}{p:α→Bool}{l:List α}{i:Nat}(h:l.findIdx? p=some i):vY p l=i:=by simp[vY,h]
theorem Bl{α:Type}{p:α→Bool}{l:List α}(h:l.findIdx? p=none):vY p l= -1:=by simp[vY,h]
theorem BU{α:Type}{p:α→Bool}{l:List α}:decide (0≤vY p l)=l.any p:=by
 unfold vY
 split
 ·rename_i i hi
  obtain⟨h1,h2,_⟩:=List.findIdx?_eq_some_iff_getElem.1 hi
  have:l.any p=true:=QC h1 h2
  rw[this];simp
 ·rename_i hi
  rw[List.findIdx?_eq_none_iff]at hi
  have:l.any p=false:=by rw[List.any_eq_false];intro x hx;rw[hi x hx];simp
  rw[this];simp
theorem FS{α:Type}{p:α→Bool}{l:List α}:0≤vY p l↔l.any p=true:=by
 rw[←BU];simp
theorem uH(l:List aR)(n:aR):Ok Tryz.prog 111 [nE l,.str n] ⟨.d (aC (vY (fun x=>decide (n=x)) l)),true⟩:=by
 refine Ok.ret Tryz.func111 (by kernel_rfl) (c:=_) rfl Tryz.ntmps111 (by simp) Tryz.results111 (by intro _ h;cases h) fun w0 X hp=>?_
 refine oS.len (t:=0) rfl fun hlen=>?_
 simp at hlen
 refine oS.sy ?_
 simp
 refine oS.seq ?_
 refine oS.sy ?_
 simp
 refine oS.block ?_
 refine cA (ι:=Nat) (fun i=>aY [(0,.d (nE l)),(1,.d (.str n)),(7,.d (aC l.length)),(8,.d (aC i))]) (fun i=>aK []) (fun i=>i≤l.length∧Ph (fun x=>decide (n=x)) l i) (fun i=>l.length-i) 0 (aA [0,1,7,8] [] (by decide) (by decide) (by simp[hp]) (by simp) (by simp)) (⟨Nat.zero_le _,Ph.zero⟩) fun i hi2=>?_
 refine oS.sy ?_
 simp
 refine oS.seq ?_
 refine aB ?_
 simp
 refine⟨fun h2=>?_,fun h2=>?_⟩
 ·refine oS.skip ?_
  simp
  refine oS.seq ?_
  refine oS.block ?_
  refine oS.sy ?_
  simp
  refine oS.sy ?_
  simp[h2]
  refine aB ?_
  simp
  refine⟨fun h4=>?_,fun h4=>?_⟩
  ·refine oS.sy ?_
   simp
   refine oS.ret ?_
   simp[Bk (hi2.2.found h2 (by simpa using h4))]
  ·refine oS.skip ?_
   simp
   refine aL ?_
   simp
   refine⟨by omega,?_⟩
   refine JK.mk (i+1) (aA [0,1,7,8] [] (by decide) (by decide) (by simp[hp]) (by simp) (by simp)) ?_ ?_
   ·exact⟨h2,hi2.2.succ h2 (by simpa using h4)⟩
   ·omega
 ·refine oS.exit ?_
  simp
  refine oS.sy ?_
  simp
  refine oS.ret ?_
  simp[Bl (hi2.2.none (by omega))]
theorem Nl(l:List aR)(n:aR):Ok Tryz.prog 185 [nE l,.str n] ⟨.d (.bool (decide (n∈l))),true⟩:=by
 refine Ok.ret Tryz.func185 (by kernel_rfl) (c:=_) rfl Tryz.ntmps185 (by simp) Tryz.results185 (by intro _ h;cases h) fun w0 X hp=>?_
 refine oS.sy ?_
 simp
 refine bY hT hW (fun|7=>some<| .plain ⟨.d (aC (vY (fun x=>decide (n=x)) l)),true⟩|_=>none) ?_
 simp
 refine⟨uH l n,?_⟩
 refine oS.ret ?_
 simp[FS]
theorem IV(l:List Nd)(p:Nd→Bool)(g:FuncId)(cs:List DV)(hg:∀x∈l,Ok Tryz.prog g (x.d::cs) ⟨.d (.bool (p x)),true⟩):Ok Tryz.prog 189 [ndsD l,.fn g cs] ⟨.d (aC (vY p l)),true⟩:=by
 refine Ok.ret Tryz.func189 (by kernel_rfl) (c:=_) rfl Tryz.ntmps189 (by simp) Tryz.results189 (by intro _ h;cases h) fun w0 X hp=>?_
 refine oS.len (t:=0) rfl fun hlen=>?_
 simp at hlen
 refine oS.sy ?_
 simp
 refine oS.seq ?_
 refine oS.sy ?_
 simp
 refine oS.block ?_
 refine cA (ι:=Nat) (fun i=>aY [(0,.d (ndsD l)),(1,.d (.fn g cs)),(7,.d (aC l.length)),(8,.d (aC i))]) (fun i=>aK []) (fun i=>i≤l.length∧Ph p l i) (fun i=>l.length-i) 0 (aA [0,1,7,8] [] (by decide) (by decide) (by simp[hp]) (by simp) (by simp)) (⟨Nat.zero_le _,Ph.zero⟩) fun i hi2=>?_
 refine oS.sy ?_
 simp
 refine oS.seq ?_
 refine aB ?_
 simp
 refine⟨fun h2=>?_,fun h2=>?_⟩
 ·refine oS.skip ?_
  simp
  refine oS.seq ?_
  refine oS.block ?_
  refine oS.sy ?_
  simp
  refine bY hT hW (fun|16=>some<| .plain ⟨.d (.bool (p l[i])),true⟩|_=>none) ?_
  simp[h2]
  refine⟨by simpa using hg l[i] (List.getElem_mem h2),?_⟩
  refine aB ?_
  simp
  refine⟨fun h4=>?_,fun h4=>?_⟩
  ·refine oS.sy ?_
   simp
   refine oS.ret ?_
   simp[Bk (hi2.2.found h2 h4)]
  ·refine oS.skip ?_
   simp
   refine aL ?_
   simp
   refine⟨by omega,?_⟩
   refine JK.mk (i+1) (aA [0,1,7,8] [] (by decide) (by decide) (by simp[hp]) (by simp) (by simp)) ?_ ?_
   ·exact⟨h2,hi2.2.succ h2 h4⟩
   ·omega
 ·refine oS.exit ?_
  simp
  refine oS.sy ?_
  simp
  refine oS.ret ?_
  simp[Bl (hi2.2.none (by omega))]
theorem Hd(l:List Nd)(p:Nd→Bool)(g:FuncId)(cs:List DV)(hg:∀x∈l,Ok Tryz.prog g (x.d::cs) ⟨.d (.bool (p x)),true⟩):Ok Tryz.prog 138 [ndsD l,.fn g cs] ⟨.d (.bool (l.any p)),true⟩:=by
 refine Ok.ret Tryz.func138 (by kernel_rfl) (c:=_) rfl Tryz.ntmps138 (by simp) Tryz.results138 (by intro _ h;cases h) fun w0 X hp=>?_
 refine oS.sy ?_
 simp
 refine bY hT hW (fun|7=>some<| .plain ⟨.d (aC (vY p l)),true⟩|_=>none) ?_
 simp
 refine⟨by simpa using IV l p g cs hg,?_⟩
 refine oS.ret ?_
 simp[←BU]
theorem Lh(k:Int):Ok Tryz.prog 216 [aC k] ⟨.d (.bool (cM k)),true⟩:=by
 refine Ok.ret Tryz.func216 (by kernel_rfl) (c:=_) rfl Tryz.ntmps216 (by simp) Tryz.results216 (by intro _ h;cases h) fun w0 X hp=>?_
 refine oS.sy ?_
 simp
 refine oS.sy ?_
 simp
 refine oS.ret ?_
 simp[cM]
theorem Li(k:Int):Ok Tryz.prog 215 [aC k] ⟨.d (.bool (tX k)),true⟩:=by
 refine Ok.ret Tryz.func215 (by kernel_rfl) (c:=_) rfl Tryz.ntmps215 (by simp) Tryz.results215 (by intro _ h;cases h) fun w0 X hp=>?_
 refine oS.sy ?_
 simp
 refine oS.sy ?_
 simp
 refine oS.ret ?_
 simp[tX]
theorem tE(k:Int):Ok Tryz.prog 218 [aC k] ⟨.d (.bool (cF k)),true⟩:=by
 refine Ok.ret Tryz.func218 (by kernel_rfl) (c:=_) rfl Tryz.ntmps218 (by simp) Tryz.results218 (by intro _ h;cases h) fun w0 X hp=>?_
 refine oS.sy ?_
 simp
 refine oS.sy ?_
 simp
 refine oS.ret ?_
 simp[cF]
theorem rA(k:Int):Ok Tryz.prog 219 [aC k] ⟨.d (.bool (aH k)),true⟩:=by
 refine Ok.ret Tryz.func219 (by kernel_rfl) (c:=_) rfl Tryz.ntmps219 (by simp) Tryz.results219 (by intro _ h;cases h) fun w0 X hp=>?_
 refine oS.sy ?_
 simp
 refine oS.sy ?_
 simp
 refine oS.ret ?_
 simp[aH]
theorem IW(k:Int):Ok Tryz.prog 220 [aC k] ⟨.d (.bool (nW k)),true⟩:=by
 refine Ok.ret Tryz.func220 (by kernel_rfl) (c:=_) rfl Tryz.ntmps220 (by simp) Tryz.results220 (by intro _ h;cases h) fun w0 X hp=>?_
 refine oS.sy ?_
 simp
 refine oS.sy ?_
 simp
 refine oS.ret ?_
 simp[nW]
theorem IX(k:Int):Ok Tryz.prog 221 [aC k] ⟨.d (.bool (oV k)),true⟩:=by
 refine Ok.ret Tryz.func221 (by kernel_rfl) (c:=_) rfl Tryz.ntmps221 (by simp) Tryz.results221 (by intro _ h;cases h) fun w0 X hp=>?_
 refine oS.sy ?_
 simp
 refine oS.sy ?_
 simp
 refine oS.ret ?_
 simp[oV]
theorem Po(x:Nd)(g:FuncId)(f:Int→Bool)(hg:∀k,Ok Tryz.prog g [aC k] ⟨.d (.bool (f k)),true⟩):Ok Tryz.prog 251 [x.d,.ro [.fn g []]] ⟨.d (.bool (!f x.kind)),true⟩:=by
 refine Ok.ret Tryz.func251 (by kernel_rfl) (c:=_) rfl Tryz.ntmps251 (by simp) Tryz.results251 (by intro _ h;cases h) fun w0 X hp=>?_
 refine oS.sy ?_
 simp
 refine bY hT hW (fun|7=>some<| .plain ⟨.d (.bool (f x.kind)),true⟩|_=>none) ?_
 simp
 refine⟨hg _,?_⟩
 refine oS.ret ?_
 simp
theorem Nn(x:Nd)(g:FuncId)(f:Int→Bool)(hg:∀k,Ok Tryz.prog g [aC k] ⟨.d (.bool (f k)),true⟩):Ok Tryz.prog 214 [x.d,.fn g []] ⟨.d (.bool (x.kids.all fun y=>f y.kind)),true⟩:=by
 refine Ok.ret Tryz.func214 (by kernel_rfl) (c:=_) rfl Tryz.ntmps214 (by simp) Tryz.results214 (by intro _ h;cases h) fun w0 X hp=>?_
 refine oS.sy ?_
 simp
 refine bY hT hW (fun|8=>some<| .plain ⟨.d (.bool (x.kids.any fun y=> !f y.kind)),true⟩|_=>none) ?_
 simp
 refine⟨by simpa using Hd x.kids (fun y=> !f y.kind) _ _ fun y _=>Po y g f hg,?_⟩
 refine oS.ret ?_
 simp[List.all_eq_not_any_not]
theorem ER:∀{ks:List Nd} {fs:List (Int→Bool)},ks.length≠fs.length→cS ks fs=false
 |[],[],h=>absurd rfl h
 |[],_::_,_=>rfl
 |_::_,[],_=>rfl
 |x::r,f::l,h=>by rw[cS,ER (ks:=r) (fs:=l) (by simpa using h),Bool.and_false]
theorem Dx:∀{ks:List Nd} {fs:List (Int→Bool)},ks.length=fs.length→(cS ks fs=true↔∀(i:Nat) (h1:i<ks.length) (h2:i<fs.length),fs[i] ks[i].kind=true)
 |[],[],_=>⟨fun _ i h=>by simp at h,fun _=>rfl⟩
 |[],_::_,h=>by simp at h
 |_::_,[],h=>by simp at h
 |x::r,f::l,h=>by
  rw[cS,Bool.and_eq_true,Dx (ks:=r) (fs:=l) (by simpa using h)]
  constructor
  ·rintro⟨h1,h2⟩ i hi hj
   cases i with
   |zero=>exact h1
   |succ i=>exact h2 i (by simpa using hi) (by simpa using hj)
  ·intro h
   exact⟨h 0 (by simp) (by simp),fun i hi hj=>h (i+1) (by simpa using hi) (by simpa using hj)⟩
structure Pp(gs:List FuncId)(fs:List (Int→Bool)):Prop where
 len:gs.length=fs.length
 ok:∀(i:Nat) (h1:i<gs.length) (h2:i<fs.length) (k:Int),Ok Tryz.prog gs[i] [aC k] ⟨.d (.bool (fs[i] k)),true⟩
def Lj(g:FuncId):DV:=.fn g []
theorem sE(x:Nd)(gs:List FuncId)(fs:List (Int→Bool))(hg:Pp gs fs)(hgl:gs.length≤100):Ok Tryz.prog 217 [x.d,.sl (gs.map Lj)] ⟨.d (.bool (cS x.kids fs)),true⟩:=by
 refine Ok.ret Tryz.func217 (by kernel_rfl) (c:=_) rfl Tryz.ntmps217 (by simp) Tryz.results217 (by intro _ h;cases h) fun w0 X hp=>?_
 have hgf:=hg.len
 refine oS.sy ?_
 simp
 refine oS.seq ?_
 refine oS.sy ?_
 simp
 refine aB ?_
 simp
 refine⟨fun h1=>?_,fun h1=>?_⟩
 ·refine oS.sy ?_
  simp
  refine oS.ret ?_
  simp
  exact ER (by omega)
 ·refine oS.skip ?_
  simp
  refine oS.seq ?_
  refine oS.seq ?_
  have hlen:x.kids.length=fs.length:=by omega
  have hkl:x.kids.length≤100:=by omega
  refine aL ?_
  simp
  refine oS.block ?_
  refine cA (ι:=Nat) (fun i=>aY [(1,.d (.sl (gs.map Lj))),(14,.d (ndsD x.kids)),(15,.d (aC x.kids.length)),(16,.d (aC i))]) (fun i=>aK []) (fun i=>i≤x.kids.length∧∀(j:Nat) (h1:j<x.kids.length) (h2:j<fs.length),j<i→fs[j] x.kids[j].kind=true) (fun i=>x.kids.length-i) 0 (aA [1,14,15,16] [] (by decide) (by decide) (by simp[hp]) (by simp) (by simp)) (⟨Nat.zero_le _,fun j _ _ h=>absurd h (Nat.not_lt_zero _)⟩) fun i hi4=>?_
  refine oS.sy ?_
  simp
  refine oS.seq ?_
  refine aB ?_
  simp
  refine⟨fun h4=>?_,fun h4=>?_⟩
  ·refine oS.skip ?_
   simp
   refine oS.seq ?_
   refine oS.block ?_
   refine oS.seq ?_
   have hi:i<x.kids.length:=by omega
   have hif:i<fs.length:=by omega
   have hig:i<gs.length:=by omega
   refine aL ?_
   simp[hi]
   refine oS.seq ?_
   have hk:=hg.ok i hig hif x.kids[i].kind
   refine aF hT hW bI (lk [[],[],[0,1],[0,1,2],[],[4],[0,1,2,3,4,5],[0,1,2,3,4,5,6]]) (lk [[],[],[],[],[],[],[],[]]) (lk [[],[],[],[],[],[],[27],[]]) (by kernel_rfl) (fun|27=>some<| .plain ⟨.d (.bool (fs[i] x.kids[i].kind)),true⟩|_=>none) (by intro d;first|exact⟨rfl,fun _ h=>h⟩|(split<;>exact⟨rfl,fun _ h=>h⟩)) ?_
   simp[hig,Lj,bV]
   refine⟨hk,?_⟩
   refine aB ?_
   simp
   refine⟨fun h6=>?_,fun h6=>?_⟩
   ·refine oS.sy ?_
    simp
    refine oS.ret ?_
    simp
    rw[←Bool.not_eq_true,Dx hlen]
    intro h
    have:=h i hi hif
    simp[h6]at this
   ·refine oS.skip ?_
    simp
    refine aL ?_
    simp
    refine⟨by omega,?_⟩
    refine JK.mk (i+1) (aA [1,14,15,16] [] (by decide) (by decide) (by simp[hp]) (by simp) (by simp)) ?_ ?_
    ·refine⟨by omega,fun j q1 q2 q3=>?_⟩
     rcases Nat.lt_or_ge j i with q|q
     ·exact hi4.2 j q1 q2 q
     ·have:j=i:=by omega
      subst this
      simpa using h6
    ·omega
  ·refine oS.exit ?_
   simp
   refine oS.sy ?_
   simp
   refine oS.ret ?_
   simp
   rw[Dx hlen]
   exact fun j q1 q2=>hi4.2 j q1 q2 (by omega)
end
open Go.Proofs
section
attribute[local simp] oZ.cond Nd.d_eq nd_t nd_dr nd_td ndsD
theorem Pp.nil:Pp [] []:=⟨rfl,fun i h=>by simp at h⟩
theorem Pp.cons{g:FuncId}{f:Int→Bool}{gs:List FuncId}{fs:List (Int→Bool)}(h:∀k,Ok Tryz.prog g [aC k] ⟨.d (.bool (f k)),true⟩)(hs:Pp gs fs):Pp (g::gs) (f::fs):=
 ⟨by simp[hs.len],fun i h1 h2 k=>by
  cases i with
  |zero=>exact h k
  |succ i=>exact hs.ok i (by simpa using h1) (by simpa using h2) k⟩
theorem Lk(x:Nd):Ok Tryz.prog 164 [x.d] ⟨.d (.bool (fR x)),true⟩:=by
 refine Ok.ret Tryz.func164 (by kernel_rfl) (c:=_) rfl Tryz.ntmps164 (by simp) Tryz.results164 (by intro _ h;cases h) fun w0 X hp=>?_
 refine oS.sy ?_
 simp
 refine oS.seq ?_
 refine oS.sy ?_
 simp
 refine oS.block ?_
 refine oS.sy ?_
 simp
 refine aB ?_
 simp
 refine⟨fun h2=>?_,fun h2=>?_⟩
 ·refine oS.seq ?_
  have hk3:=Nn x 215 tX fun k=>Li k
  refine oS.ro hT hW (fun|8=>some<| .plain ⟨.d (.bool (x.kids.all fun y=>tX y.kind)),true⟩|_=>none) ?_
  simp
  refine⟨by simpa using hk3,?_⟩
  refine oS.ret ?_
  simp
  unfold fR cT
  repeat(first|rw[if_pos (by omega)]|rw[if_neg (by omega)])
  try simp[hq]
 ·refine oS.sy ?_
  simp
  refine aB ?_
  simp
  refine⟨fun h4=>?_,fun h4=>?_⟩
  ·refine oS.seq ?_
   have hk5:=Nn x 216 cM fun k=>Lh k
   refine oS.ro hT hW (fun|12=>some<| .plain ⟨.d (.bool (x.kids.all fun y=>cM y.kind)),true⟩|_=>none) ?_
   simp
   refine⟨by simpa using hk5,?_⟩
   refine oS.ret ?_
   simp
   unfold fR cT
   repeat(first|rw[if_pos (by omega)]|rw[if_neg (by omega)])
   try simp[hq]
  ·refine aO (ι:=BC) (fun⟨b⟩=>aY [(1,.bx 1 0),(4,.d (aC x.kind)),(13,.d (.bool b))]) (fun⟨b⟩=>aK [(1,.box false [.d (aC x.kind),.d (.str x.text),.d (aC x.n),.d (ndsD x.kids)])]) (fun⟨b⟩=>b=true↔(x.kind=5∨x.kind=6)) ?_ fun⟨b⟩ hc8=>?_
   ·refine oS.sy ?_
    simp
    refine aB ?_
    simp
    refine⟨fun h6=>?_,fun h6=>?_⟩
    ·refine oS.skip ?_
     simp
     refine Pg.mk ⟨decide (x.kind=5)⟩ (aA [1,4,13] [(1,1)] (by decide) (by decide) (by simp[hp]) (by simp) (by simp)) ?_
     simp[h6]
    ·refine aL ?_
     simp
     refine Pg.mk ⟨decide (x.kind=6)⟩ (aA [1,4,13] [(1,1)] (by decide) (by decide) (by simp[hp]) (by simp) (by simp)) ?_
     simp only[decide_eq_true_eq];omega
   ·refine aB ?_
    simp
    refine⟨fun h8=>?_,fun h8=>?_⟩
    ·have q8:=hc8.1 h8
     refine oS.seq ?_
     have hk8:=sE x [218] [cF] (Pp.cons (fun k=>tE k) Pp.nil) (by decide)
     refine oS.ro hT hW (fun|18=>some<| .plain ⟨.d (.bool (cS x.kids [cF])),true⟩|_=>none) ?_
     simp
     refine⟨by simpa [Lj]using hk8,?_⟩
     refine oS.ret ?_
     simp
     unfold fR cT
     repeat(first|rw[if_pos (by omega)]|rw[if_neg (by omega)])
     try simp[hq]
    ·have q8:¬(x.kind=5∨x.kind=6):=fun q=>by simp[hc8.2 q]at h8
     refine aO (ι:=BC) (fun⟨b⟩=>aY [(1,.bx 1 0),(4,.d (aC x.kind)),(19,.d (.bool b))]) (fun⟨b⟩=>aK [(1,.box false [.d (aC x.kind),.d (.str x.text),.d (aC x.n),.d (ndsD x.kids)])]) (fun⟨b⟩=>b=true↔(x.kind=9∨x.kind=15∨x.kind=22∨x.kind=24)) ?_ fun⟨b⟩ hc13=>?_
     ·refine oS.sy ?_
      simp
      refine aB ?_
      simp
      refine⟨fun h9=>?_,fun h9=>?_⟩
      ·refine oS.skip ?_
       simp
       refine Pg.mk ⟨decide (x.kind=9)⟩ (aA [1,4,19] [(1,1)] (by decide) (by decide) (by simp[hp]) (by simp) (by simp)) ?_
       simp[h9]
      ·refine oS.sy ?_
       simp
       refine aB ?_
       simp
       refine⟨fun h10=>?_,fun h10=>?_⟩
       ·refine oS.skip ?_
        simp
        refine Pg.mk ⟨decide (x.kind=15)⟩ (aA [1,4,19] [(1,1)] (by decide) (by decide) (by simp[hp]) (by simp) (by simp)) ?_
        simp[h10]
       ·refine oS.sy ?_
        simp
        refine aB ?_
        simp
        refine⟨fun h11=>?_,fun h11=>?_⟩
        ·refine oS.skip ?_
         simp
         refine Pg.mk ⟨decide (x.kind=22)⟩ (aA [1,4,19] [(1,1)] (by decide) (by decide) (by simp[hp]) (by simp) (by simp)) ?_
         simp[h11]
        ·refine aL ?_
         simp
         refine Pg.mk ⟨decide (x.kind=24)⟩ (aA [1,4,19] [(1,1)] (by decide) (by decide) (by simp[hp]) (by simp) (by simp)) ?_
         simp only[decide_eq_true_eq];omega
     ·refine aB ?_
      simp
      refine⟨fun h13=>?_,fun h13=>?_⟩
      ·have q13:=hc13.1 h13
       refine oS.seq ?_
       have hk13:=sE x [219] [aH] (Pp.cons (fun k=>rA k) Pp.nil) (by decide)
       refine oS.ro hT hW (fun|26=>some<| .plain ⟨.d (.bool (cS x.kids [aH])),true⟩|_=>none) ?_
       simp
       refine⟨by simpa [Lj]using hk13,?_⟩
       refine oS.ret ?_
       simp
       unfold fR cT
       repeat(first|rw[if_pos (by omega)]|rw[if_neg (by omega)])
       try simp[hq]
      ·have q13:¬(x.kind=9∨x.kind=15∨x.kind=22∨x.kind=24):=fun q=>by simp[hc13.2 q]at h13
       refine oS.sy ?_
       simp
       refine aB ?_
       simp
       refine⟨fun h14=>?_,fun h14=>?_⟩
       ·refine oS.seq ?_
        have hk15:=sE x [220,219] [nW,aH] (Pp.cons (fun k=>IW k) (Pp.cons (fun k=>rA k) Pp.nil)) (by decide)
        refine oS.ro hT hW (fun|31=>some<| .plain ⟨.d (.bool (cS x.kids [nW,aH])),true⟩|_=>none) ?_
        simp
        refine⟨⟨by decide,by simpa [Lj]using hk15⟩,?_⟩
        refine oS.ret ?_
        simp
        unfold fR cT
        repeat(first|rw[if_pos (by omega)]|rw[if_neg (by omega)])
        try simp[hq]
       ·refine oS.sy ?_
        simp
        refine aB ?_
        simp
        refine⟨fun h16=>?_,fun h16=>?_⟩
        ·refine oS.seq ?_
         have hk17:=sE x [219,218] [aH,cF] (Pp.cons (fun k=>rA k) (Pp.cons (fun k=>tE k) Pp.nil)) (by decide)
         have hl17:=sE x [219,218,218] [aH,cF,cF] (Pp.cons (fun k=>rA k) (Pp.cons (fun k=>tE k) (Pp.cons (fun k=>tE k) Pp.nil))) (by decide)
         cases hq:cS x.kids [aH,cF]<;>rw[hq]at hk17
         ·refine oS.ro hT hW (fun|36=>some<| .plain ⟨.d (.bool (decide (0=1))),true⟩|40=>some<| .plain ⟨.d (.bool (cS x.kids [aH,cF,cF])),true⟩|_=>none) ?_
          simp
          refine⟨⟨⟨⟨by decide,by simpa [Lj]using hk17⟩,by decide⟩,by simpa [Lj]using hl17⟩,?_⟩
          refine oS.ret ?_
          simp
          unfold fR cT
          repeat(first|rw[if_pos (by omega)]|rw[if_neg (by omega)])
          try simp[hq]
         ·refine oS.ro hT hW (fun|36=>some<| .plain ⟨.d (.bool (decide (1=1))),true⟩|40=>some<| .plain ⟨.d (.bool (cS x.kids [aH,cF,cF])),true⟩|_=>none) ?_
          simp
          refine⟨⟨by decide,by simpa [Lj]using hk17⟩,?_⟩
          refine oS.ret ?_
          simp
          unfold fR cT
          repeat(first|rw[if_pos (by omega)]|rw[if_neg (by omega)])
          try simp[hq]
        ·refine oS.sy ?_
         simp
         refine aB ?_
         simp
         refine⟨fun h18=>?_,fun h18=>?_⟩
         ·refine oS.seq ?_
          have hk19:=sE x [219,218] [aH,cF] (Pp.cons (fun k=>rA k) (Pp.cons (fun k=>tE k) Pp.nil)) (by decide)
          refine oS.ro hT hW (fun|46=>some<| .plain ⟨.d (.bool (cS x.kids [aH,cF])),true⟩|_=>none) ?_
          simp
          refine⟨⟨by decide,by simpa [Lj]using hk19⟩,?_⟩
          refine oS.ret ?_
          simp
          unfold fR cT
          repeat(first|rw[if_pos (by omega)]|rw[if_neg (by omega)])
          try simp[hq]
         ·refine aO (ι:=BC) (fun⟨b⟩=>aY [(1,.bx 1 0),(4,.d (aC x.kind)),(47,.d (.bool b))]) (fun⟨b⟩=>aK [(1,.box false [.d (aC x.kind),.d (.str x.text),.d (aC x.n),.d (ndsD x.kids)])]) (fun⟨b⟩=>b=true↔(x.kind=16∨x.kind=23)) ?_ fun⟨b⟩ hc22=>?_
          ·refine oS.sy ?_
           simp
           refine aB ?_
           simp
           refine⟨fun h20=>?_,fun h20=>?_⟩
           ·refine oS.skip ?_
            simp
            refine Pg.mk ⟨decide (x.kind=16)⟩ (aA [1,4,47] [(1,1)] (by decide) (by decide) (by simp[hp]) (by simp) (by simp)) ?_
            simp[h20]
           ·refine aL ?_
            simp
            refine Pg.mk ⟨decide (x.kind=23)⟩ (aA [1,4,47] [(1,1)] (by decide) (by decide) (by simp[hp]) (by simp) (by simp)) ?_
            simp only[decide_eq_true_eq];omega
          ·refine aB ?_
           simp
           refine⟨fun h22=>?_,fun h22=>?_⟩
           ·have q22:=hc22.1 h22
            refine oS.seq ?_
            have hk22:=sE x [221] [oV] (Pp.cons (fun k=>IX k) Pp.nil) (by decide)
            refine oS.ro hT hW (fun|52=>some<| .plain ⟨.d (.bool (cS x.kids [oV])),true⟩|_=>none) ?_
            simp
            refine⟨by simpa [Lj]using hk22,?_⟩
            refine oS.ret ?_
            simp
            unfold fR cT
            repeat(first|rw[if_pos (by omega)]|rw[if_neg (by omega)])
            try simp[hq]
           ·have q22:¬(x.kind=16∨x.kind=23):=fun q=>by simp[hc22.2 q]at h22
            refine aO (ι:=BC) (fun⟨b⟩=>aY [(1,.bx 1 0),(4,.d (aC x.kind)),(53,.d (.bool b))]) (fun⟨b⟩=>aK [(1,.box false [.d (aC x.kind),.d (.str x.text),.d (aC x.n),.d (ndsD x.kids)])]) (fun⟨b⟩=>b=true↔(x.kind=26∨x.kind=27∨x.kind=28∨x.kind=29∨x.kind=30∨x.kind=31)) ?_ fun⟨b⟩ hc29=>?_
            ·refine oS.sy ?_
             simp
             refine aB ?_
             simp
             refine⟨fun h23=>?_,fun h23=>?_⟩
             ·refine oS.skip ?_
              simp
              refine Pg.mk ⟨decide (x.kind=26)⟩ (aA [1,4,53] [(1,1)] (by decide) (by decide) (by simp[hp]) (by simp) (by simp)) ?_
              simp[h23]
             ·refine oS.sy ?_
              simp
              refine aB ?_
              simp
              refine⟨fun h24=>?_,fun h24=>?_⟩
              ·refine oS.skip ?_
               simp
               refine Pg.mk ⟨decide (x.kind=27)⟩ (aA [1,4,53] [(1,1)] (by decide) (by decide) (by simp[hp]) (by simp) (by simp)) ?_
               simp[h24]
              ·refine oS.sy ?_
               simp
               refine aB ?_
               simp
               refine⟨fun h25=>?_,fun h25=>?_⟩
               ·refine oS.skip ?_
                simp
                refine Pg.mk ⟨decide (x.kind=28)⟩ (aA [1,4,53] [(1,1)] (by decide) (by decide) (by simp[hp]) (by simp) (by simp)) ?_
                simp[h25]
               ·refine oS.sy ?_
                simp
                refine aB ?_
                simp
                refine⟨fun h26=>?_,fun h26=>?_⟩
                ·refine oS.skip ?_
                 simp
                 refine Pg.mk ⟨decide (x.kind=29)⟩ (aA [1,4,53] [(1,1)] (by decide) (by decide) (by simp[hp]) (by simp) (by simp)) ?_
                 simp[h26]
                ·refine oS.sy ?_
                 simp
                 refine aB ?_
                 simp
                 refine⟨fun h27=>?_,fun h27=>?_⟩
                 ·refine oS.skip ?_
                  simp
                  refine Pg.mk ⟨decide (x.kind=30)⟩ (aA [1,4,53] [(1,1)] (by decide) (by decide) (by simp[hp]) (by simp) (by simp)) ?_
                  simp[h27]
                 ·refine aL ?_
                  simp
                  refine Pg.mk ⟨decide (x.kind=31)⟩ (aA [1,4,53] [(1,1)] (by decide) (by decide) (by simp[hp]) (by simp) (by simp)) ?_
                  simp only[decide_eq_true_eq];omega
            ·refine aB ?_
             simp
             refine⟨fun h29=>?_,fun h29=>?_⟩
             ·have q29:=hc29.1 h29
              refine oS.seq ?_
              have hk29:=sE x [219,219] [aH,aH] (Pp.cons (fun k=>rA k) (Pp.cons (fun k=>rA k) Pp.nil)) (by decide)
              refine oS.ro hT hW (fun|62=>some<| .plain ⟨.d (.bool (cS x.kids [aH,aH])),true⟩|_=>none) ?_
              simp
              refine⟨⟨by decide,by simpa [Lj]using hk29⟩,?_⟩
              refine oS.ret ?_
              simp
              unfold fR cT
              repeat(first|rw[if_pos (by omega)]|rw[if_neg (by omega)])
              try simp[hq]
             ·have q29:¬(x.kind=26∨x.kind=27∨x.kind=28∨x.kind=29∨x.kind=30∨x.kind=31):=fun q=>by simp[hc29.2 q]at h29
              refine oS.skip ?_
              simp
              refine oS.seq ?_
              have hk30:=sE x [] [] Pp.nil (by decide)
              refine oS.ro hT hW (fun|64=>some<| .plain ⟨.d (.bool (cS x.kids [])),true⟩|_=>none) ?_
              simp
              refine⟨by simpa [Lj]using hk30,?_⟩
              refine oS.ret ?_
              simp
              unfold fR cT
              repeat(first|rw[if_pos (by omega)]|rw[if_neg (by omega)])
              try simp[hq]
end
open Go.Proofs
section
attribute[local simp] oZ.cond Nd.d_eq nd_t nd_dr nd_td ndsD
theorem Bm:BA.length=12:=rfl
theorem Np{k:Int}(h0:26≤k)(h1:k≤31):List.take 2 (List.drop ((k-26).toNat*2) BA)=[.str (qE k),aC (cG k)]:=by
 have:k=26∨k=27∨k=28∨k=29∨k=30∨k=31:=by omega
 rcases this with rfl|rfl|rfl|rfl|rfl|rfl<;>rfl
theorem Ll{k:Int}(h0:26≤k)(h1:k≤31):BA[(k-26).toNat*2+1]?.getD default=aC (cG k):=by
 have:k=26∨k=27∨k=28∨k=29∨k=30∨k=31:=by omega
 rcases this with rfl|rfl|rfl|rfl|rfl|rfl<;>rfl
theorem Nq(x:Nd):Ok Tryz.prog 274 [x.d] ⟨.d (aC (lvlN x.kind)),true⟩:=by
 refine Ok.ret Tryz.func274 (by kernel_rfl) (c:=_) rfl Tryz.ntmps274 (by simp) Tryz.results274 (by intro _ h;cases h) fun w0 X hp=>?_
 refine oS.sy ?_
 simp
 refine oS.seq ?_
 refine oS.sy ?_
 simp
 refine aB ?_
 simp
 refine⟨fun g1 g2=>?_,fun g=>?_⟩
 ·refine oS.seq ?_
  have q1:=Ll g1 g2
  have q2:=Bm
  refine aL ?_
  simp[q1]
  refine⟨⟨⟨by omega,by omega⟩,by omega⟩,?_⟩
  refine oS.ret ?_
  simp[lvlN,g1,g2]
 ·refine oS.skip ?_
  simp
  refine oS.sy ?_
  simp
  refine oS.ret ?_
  simp
  rw[lvlN,if_neg (by omega)]
theorem JQ(n:Nat):(xO n).length≤3:=by unfold xO;split<;>(try split)<;>simp
theorem lU(n:Int):(iJ n).length≤4:=by
 have h1:=JQ n.natAbs
 have h2:=JQ n.toNat
 unfold iJ;split
 ·simp only[List.length_cons];omega
 ·omega
theorem sM(c:Bool)(t:aR):(paren c t).length≤t.length+2:=by cases c<;>simp[paren]
theorem He(k:Int)(h:26≤k∧k≤31):(qE k).length≤2:=by
 have:k=26∨k=27∨k=28∨k=29∨k=30∨k=31:=by omega
 rcases this with rfl|rfl|rfl|rfl|rfl|rfl<;>decide
theorem eB(x:Nd):aI x=true→aH x.kind=true→(exprT x).length≤8*weighN x:=by
 refine qX (p:=fun x=>aI x=true→aH x.kind=true→(exprT x).length≤8*weighN x) (fun k t n ks ih=>?_) x
 intro hr he
 have hw:weighN (.mk k t n ks)=weighL ks+t.length+1:=by rw[weighN]
 rcases tD hr he with⟨_,_,_,h4⟩|⟨h1,_⟩|h1|⟨h1,_⟩|⟨h1,h2⟩|⟨k',a,b,h1,h2,h3,h4,h5,h6,h7⟩
 ·rw[h4]
  have:=lU (Nd.mk k t n ks).n
  simp only[exprT,if_true,weighN];omega
 ·rw[h1];simp[exprT,weighN];omega
 ·rw[h1];simp[exprT,weighN,qD];omega
 ·rw[h1];simp[exprT,weighN];omega
 ·rw[h1];simp[exprT,weighN];omega
 ·injection h3 with i1 i2 i3 i4
  subst i1;subst i2;subst i3;subst i4
  have ha:=ih a (by simp) h4 h5
  have hb:=ih b (by simp) h6 h7
  have e1:=sM (decide (lvlN a.kind<(if cG k=1 then 2 else cG k))) (exprT a)
  have e2:=sM (decide (lvlN b.kind<cG k+1)) (exprT b)
  have e3:=He k ⟨h1,h2⟩
  rw[Bi h1 h2,hw]
  simp only[weighL,List.length_append,List.length_cons,List.length_nil]
  omega
end
end Go.Eng
namespace Go.Proofs
open Go.Shelf
def Tryz.itoaLay_ren:Go.Shelf.Ren:=⟨fun|171=>123|243=>168|246=>224|283=>253|284=>254|285=>255|286=>256|129=>180|317=>275|318=>276|319=>277|320=>278|337=>288|338=>289|n=>n,fun|3=>3|9=>9|2=>2|4=>4|171=>247|0=>0|53=>145|37=>75|5=>5|173=>249|212=>265|51=>142|20=>20|213=>266|46=>165|232=>151|233=>144|n=>n,fun|17=>8|18=>9|19=>10|n=>n⟩
theorem Tryz.itoaLay:Go.Proofs.LaysM.n171 Tryz.prog Tryz.itoaLay_ren:={
 mixed:=by kernel_rfl,
 f129:=Tryz.func180.trans (congrArg some (by kernel_rfl)),
 f171:=Tryz.func123.trans (congrArg some (by kernel_rfl)),
 f243:=Tryz.func168.trans (congrArg some (by kernel_rfl)),
 f246:=Tryz.func224.trans (congrArg some (by kernel_rfl)),
 f283:=Tryz.func253.trans (congrArg some (by kernel_rfl)),
 f284:=Tryz.func254.trans (congrArg some (by kernel_rfl)),
 f285:=Tryz.func255.trans (congrArg some (by kernel_rfl)),
 f286:=Tryz.func256.trans (congrArg some (by kernel_rfl)),
 f317:=Tryz.func275.trans (congrArg some (by kernel_rfl)),
 f318:=Tryz.func276.trans (congrArg some (by kernel_rfl)),
 f319:=Tryz.func277.trans (congrArg some (by kernel_rfl)),
 f320:=Tryz.func278.trans (congrArg some (by kernel_rfl)),
 f337:=Tryz.func288.trans (congrArg some (by kernel_rfl)),
 f338:=Tryz.func289.trans (congrArg some (by kernel_rfl)),
 t0:=Tryz.underlying0,
 a0:=Tryz.isAgg0,
 z0:=Tryz.sizeOf0,
 v0:=Tryz.zeroValue0,
 t2:=Tryz.underlying2,
 a2:=Tryz.isAgg2,
 z2:=Tryz.sizeOf2,
 v2:=Tryz.zeroValue2,
 t3:=Tryz.underlying3,
 a3:=Tryz.isAgg3,
 z3:=Tryz.sizeOf3,
 v3:=Tryz.zeroValue3,
 t4:=Tryz.underlying4,
 a4:=Tryz.isAgg4,
 z4:=Tryz.sizeOf4,
 v4:=Tryz.zeroValue4,
 t5:=Tryz.underlying5,
 a5:=Tryz.isAgg5,
 z5:=Tryz.sizeOf5,
 v5:=Tryz.zeroValue5,
 t9:=Tryz.underlying9,
 a9:=Tryz.isAgg9,
 z9:=Tryz.sizeOf9,
 v9:=Tryz.zeroValue9,
 t20:=Tryz.underlying20,
 a20:=Tryz.isAgg20,
 z20:=Tryz.sizeOf20,
 v20:=Tryz.zeroValue20,
 t37:=Tryz.underlying75,
 a37:=Tryz.isAgg75,
 z37:=Tryz.sizeOf75,
 v37:=Tryz.zeroValue75,
 t46:=Tryz.underlying165,
 a46:=Tryz.isAgg165,
 z46:=Tryz.sizeOf165,
 v46:=Tryz.zeroValue165,
 t51:=Tryz.underlying142,
 a51:=Tryz.isAgg142,
 z51:=Tryz.sizeOf142,
 v51:=Tryz.zeroValue142,
 t53:=Tryz.underlying145,
 a53:=Tryz.isAgg145,
 z53:=Tryz.sizeOf145,
 v53:=Tryz.zeroValue145,
 t171:=Tryz.underlying247,
 a171:=Tryz.isAgg247,
 z171:=Tryz.sizeOf247,
 v171:=Tryz.zeroValue247,
 t173:=Tryz.underlying249,
 a173:=Tryz.isAgg249,
 z173:=Tryz.sizeOf249,
 v173:=Tryz.zeroValue249,
 t212:=Tryz.underlying265,
 a212:=Tryz.isAgg265,
 z212:=Tryz.sizeOf265,
 v212:=Tryz.zeroValue265,
 t213:=Tryz.underlying266,
 a213:=Tryz.isAgg266,
 z213:=Tryz.sizeOf266,
 t232:=Tryz.underlying151,
 a232:=Tryz.isAgg151,
 z232:=Tryz.sizeOf151,
 v232:=Tryz.zeroValue151,
 t233:=Tryz.underlying144,
 a233:=Tryz.isAgg144,
 z233:=Tryz.sizeOf144,
 v233:=Tryz.zeroValue144,
 g17:=by kernel_rfl,
 g18:=by kernel_rfl,
 g19:=by kernel_rfl,
 i0:=by kernel_rfl,
 i2:=by kernel_rfl,
 i3:=by kernel_rfl,
 i4:=by kernel_rfl,
 i5:=by kernel_rfl,
 i9:=by kernel_rfl,
 i20:=by kernel_rfl,
 i37:=by kernel_rfl,
 i46:=by kernel_rfl,
 i51:=by kernel_rfl,
 i53:=by kernel_rfl,
 i171:=by kernel_rfl,
 i173:=by kernel_rfl,
 i212:=by kernel_rfl,
 i232:=by kernel_rfl,
 i233:=by kernel_rfl,
 m17:=by kernel_rfl,
 m18:=by kernel_rfl,
 m19:=by kernel_rfl}
end Go.Proofs
namespace Go.Eng
open Go.Proofs
theorem JR{n:Nat}(h:n<1000):Lib.decDigits n=xO n:=by
 unfold xO
 by_cases h1:n<10
 ·rw[if_pos h1,Lib.decDigits,dif_pos h1]
 ·rw[if_neg h1,Lib.decDigits,dif_neg h1]
  by_cases h2:n<100
  ·rw[if_pos h2,Lib.decDigits,dif_pos (by omega)];rfl
  ·rw[if_neg h2,Lib.decDigits,dif_neg (by omega),Lib.decDigits,dif_pos (by omega),Nat.div_div_eq_div_mul];rfl
theorem Nr{n:Int}(h0: -999≤n)(h1:n≤999):Lib.itoa n=iJ n:=by
 unfold Lib.itoa iJ
 split
 ·rw[JR (by omega)]
 ·rw[JR (by omega)]
theorem Lm:JE=Lib.pow10Tab.map fun z=>DV.int .u64 z:=by kernel_rfl
theorem Pq{w:World}{X:Nat→Prop}(h:Cr w X){name:String}(hg:Tryz.prog.globalNamed name=some 8):Lib.TabIs Tryz.prog w name .u64 Lib.pow10Tab:=by
 obtain⟨h1,arr,t,fz,h2,h3⟩:=h 8 JE rfl
 unfold Lib.TabIs World.var?
 rw[hg]
 simp only[Option.bind_some,h2,Option.some.injEq]
 rw[Lm]at h1 h3
 cases h1 with
 |ro _ _ _ us hb hul hu1 hlt hcell hp=>
  apply Array.ext_getElem?
  intro i
  by_cases hi:i<arr.size
  ·have hz:i<Lib.pow10Tab.length:=by rw[h3,List.length_map]at hi;exact hi
   have hu:i<us.length:=by rw[hul,List.length_map];exact hz
   have hc:=hcell i us[i] (List.getElem?_eq_getElem hu)
   have hq:=hp i (.int .u64 Lib.pow10Tab[i]) us[i] (by simp[hz]) (List.getElem?_eq_getElem hu)
   generalize us[i]=u at hc hq
   cases hq
   rw[Nat.zero_add]at hc
   unfold World.cell? at hc
   simp[h2]at hc
   rw[hc]
   simp[hz]
  ·rw[Array.getElem?_eq_none (by omega)]
   rw[h3,List.length_map]at hi
   rw[List.getElem?_toArray,List.getElem?_eq_none (by simpa using hi)]
theorem AC(n:Int)(h0: -999≤n)(h1:n≤999):Ok Tryz.prog 123 [aC n] ⟨.d (.str (iJ n)),true⟩:=by
 refine⟨⟨_,Tryz.func123,by kernel_rfl,rfl⟩,fun w X vs hX hr=>?_⟩
 match vs,hr.1 with
 |[v],_=>
  have h:=hr.2 0 _ _ rfl rfl
  cases h
  refine(Go.Proofs.Any.strconv_Itoa Tryz.itoaLay n (by omega) (by omega) w (Pq hX.2 (by kernel_rfl))).mono ?_
  rintro e w' ⟨rfl,k,os,rfl⟩
  refine⟨_,rfl,⟨rfl,rfl,rfl,?_,fun j hj=>Go.Sort.heap_grow_old (w.drewN k) os hj,Nat.le_add_right _ _⟩,none,?_⟩
  ·simp[Sort.grow]
  ·rw[Nr h0 h1];exact .str _
end Go.Eng
namespace Go.Eng
open Go.Proofs
attribute[local simp] mW kX iB bC mT fY hZ nM cN bG oZ.plain oZ.cond oZ.fail dP lW sT mM fP kN lG lH memless mF eJ iW tP Ee hO fI strip oL dV lK bU
 qC fQ iH iC iG oT lk cD dR bP bV bX nK eT oP iF iZ bS eK bK dG iA eV eW dW eX gF gG gH eY dX eZ dY fB gJ gK gN gO fC gR oK nH mkAgg sO AT jI bD hU aX.live TK.isNone TK.agg TK.isBool TK.isStr TK.isStruct Op.operands Call.operands
 bE cO cH cW eE nI lB cU dH iE eO kP aP frozen lI
 jM jN lC gD jP jQ jR jV lD gE jX jY jZ kC rJ lR nO nP nR nS nU kD jK gC eU Nm.d Df.d Ed.d xD xE nE xF jL rU rV dA dB
 xH xI rK xJ xK rL rM rN nV xL xM rO
 bT bA dJ lJ dK bR cB bM eN uF TK.isInt jO jW nQ gM hF dI eL eM fV eS fO lX sA nD wW rI
 nC kR mC mU cL eA dS kW jE jF iV sD gS cZ gT gU cD jT jU nN iI gV kE gP gQ fE
 cK gZ TK.isPtr eF bZ kF oU pR jS kA nT gI gL fD
attribute[local simp] dZ kG gW
section
attribute[local simp] oZ.cond Nd.d_eq nd_t nd_dr nd_td ndsD
theorem Ns{x:Nd}(h:x.kind=32):exprT x=iJ x.n:=by cases x;simp only[kK]at h;subst h;unfold exprT;simp
theorem Nt{x:Nd}(h:x.kind=33):exprT x=36::x.text:=by cases x;simp only[kK]at h;subst h;unfold exprT;simp
theorem Nu{x:Nd}(h:x.kind=36):exprT x=qD:=by cases x;simp only[kK]at h;subst h;unfold exprT;simp
theorem Nv{x:Nd}(h:x.kind=34∨x.kind=35):exprT x=x.text:=by cases x;simp only[kK]at h;rcases h with rfl|rfl<;>(unfold exprT;simp)
theorem Dy{x:Nd}(hr:aI x=true)(he:aH x.kind=true):(26≤x.kind∧x.kind≤36)∧(x.kind=32→exprT x=iJ x.n∧0≤x.n∧x.n≤999)∧(x.kind=33→exprT x=36::x.text)∧(x.kind=36→exprT x=qD)∧
 (x.kind=34∨x.kind=35→exprT x=x.text)∧(x.kind≤31→∃a b,x.kids=[a,b]∧aI a=true∧aH a.kind=true∧aI b=true∧aH b.kind=true∧
  exprT x=paren (decide (lvlN a.kind<(if cG x.kind=1 then 2 else cG x.kind))) (exprT a)++32::(qE x.kind++32::paren (decide (lvlN b.kind<cG x.kind+1)) (exprT b))):=by
 refine⟨BS.1 he,fun h=>⟨Ns h,?_⟩,Nt,Nu,Nv,fun h=>?_⟩
 ·obtain⟨k,t,n,ks⟩:=x
  have h:k=32:=h
  subst h
  obtain⟨_,_,_,w1,w2,_⟩:=right_mk.1 hr
  exact⟨w1,w2⟩
 ·rcases tD hr he with⟨h1,_⟩|⟨h1,_⟩|h1|⟨h1,_⟩|⟨h1,_⟩|⟨k',a,b,h1,h2,h3,h4,h5,h6,h7⟩
  ·omega
  ·rw[h1]at h;exact absurd h (by simp)
  ·rw[h1]at h;exact absurd h (by simp)
  ·rw[h1]at h;exact absurd h (by simp)
  ·rw[h1]at h;exact absurd h (by simp)
  ·rw[h3];exact⟨a,b,rfl,h4,h5,h6,h7,Bi h1 h2⟩
theorem ES(x:Nd)(least:Int)(hx:Ok Tryz.prog 223 [x.d] ⟨.d (.str (exprT x)),true⟩)(hl:(exprT x).length≤10000000000):Ok Tryz.prog 252 [x.d,aC least] ⟨.d (.str (paren (decide (lvlN x.kind<least)) (exprT x))),true⟩:=by
 refine Ok.ret Tryz.func252 (by kernel_rfl) (c:=_) rfl Tryz.ntmps252 (by simp) Tryz.results252 (by intro _ h;cases h) fun w0 X hp=>?_
 refine oS.sy ?_
 simp
 refine oS.seq ?_
 refine oS.seq ?_
 have hv:=Nq x
 refine oS.ro hT hW (fun|6=>some<| .plain ⟨.d (aC (lvlN x.kind)),true⟩|_=>none) ?_
 simp
 refine⟨by simpa using hv,?_⟩
 refine aB ?_
 simp
 refine⟨fun h1=>?_,fun h1=>?_⟩
 ·refine bY hT hW (fun|10=>some<| .plain ⟨.d (.str (exprT x)),true⟩|_=>none) ?_
  simp
  refine⟨⟨⟨by simpa using hx,by omega⟩,by omega⟩,?_⟩
  refine oS.ret ?_
  simp[paren,h1]
 ·refine oS.skip ?_
  simp
  refine bY hT hW (fun|14=>some<| .plain ⟨.d (.str (exprT x)),true⟩|_=>none) ?_
  simp
  refine⟨by simpa using hx,?_⟩
  refine oS.ret ?_
  simp[paren]
  intro h
  omega
theorem Ln(x:Nd)(hr:aI x=true)(he:aH x.kind=true)(hw:weighN x≤1000000000)(ih:∀y∈x.kids,aI y=true→aH y.kind=true→weighN y≤1000000000→Ok Tryz.prog 223 [y.d] ⟨.d (.str (exprT y)),true⟩):Ok Tryz.prog 223 [x.d] ⟨.d (.str (exprT x)),true⟩:=by
 refine Ok.ret Tryz.func223 (by kernel_rfl) (c:=_) rfl Tryz.ntmps223 (by simp) Tryz.results223 (by intro _ h;cases h) fun w0 X hp=>?_
 obtain⟨f0,f32,f33,f36,f34,f26⟩:=Dy hr he
 have hwx:=weighN_eq x
 refine oS.sy ?_
 simp
 refine oS.seq ?_
 refine oS.sy ?_
 simp
 refine oS.block ?_
 refine oS.sy ?_
 simp
 refine aB ?_
 simp
 refine⟨fun h2=>?_,fun h2=>?_⟩
 ·refine oS.seq ?_
  obtain⟨q1,q2,q3⟩:=f32 h2
  have hi:=AC x.n (by omega) q3
  refine oS.ro hT hW (fun|11=>some<| .plain ⟨.d (.str (iJ x.n)),true⟩|_=>none) ?_
  simp
  refine⟨hi,?_⟩
  refine oS.ret ?_
  simp[q1]
 ·refine oS.sy ?_
  simp
  refine aB ?_
  simp
  refine⟨fun h4=>?_,fun h4=>?_⟩
  ·refine oS.sy ?_
   simp
   refine⟨by omega,?_⟩
   refine oS.ret ?_
   simp[f33 h4]
  ·refine oS.sy ?_
   simp
   refine aB ?_
   simp
   refine⟨fun h6=>?_,fun h6=>?_⟩
   ·refine oS.sy ?_
    simp
    refine oS.ret ?_
    simp[f36 h6,qD]
   ·refine aO (ι:=BC) (fun⟨b⟩=>aY [(1,.bx 1 0),(19,.d (.bool b))]) (fun⟨b⟩=>aK [(1,.box false [.d (aC x.kind),.d (.str x.text),.d (aC x.n),.d (ndsD x.kids)])]) (fun⟨b⟩=>b=true↔(x.kind=34∨x.kind=35)) ?_ fun⟨b⟩ hc10=>?_
    ·refine oS.sy ?_
     simp
     refine aB ?_
     simp
     refine⟨fun h8=>?_,fun h8=>?_⟩
     ·refine oS.skip ?_
      simp
      refine Pg.mk ⟨decide (x.kind=34)⟩ (aA [1,19] [(1,1)] (by decide) (by decide) (by simp[hp]) (by simp) (by simp)) ?_
      simp[h8]
     ·refine aL ?_
      simp
      refine Pg.mk ⟨decide (x.kind=35)⟩ (aA [1,19] [(1,1)] (by decide) (by decide) (by simp[hp]) (by simp) (by simp)) ?_
      simp only[decide_eq_true_eq];omega
    ·refine aB ?_
     simp
     refine⟨fun h10=>?_,fun h10=>?_⟩
     ·have q10:=hc10.1 h10
      refine oS.sy ?_
      simp
      refine oS.ret ?_
      simp[f34 q10]
     ·have q10:¬(x.kind=34∨x.kind=35):=fun q=>by simp[hc10.2 q]at h10
      refine oS.skip ?_
      simp
      refine oS.seq ?_
      have hk31:x.kind≤31:=by omega
      obtain⟨a,b',hks,ra,ea,rb,eb,hTx⟩:=f26 hk31
      have q1:=Np (k:=x.kind) f0.1 hk31
      have q2:=Bm
      obtain⟨lv,hlv⟩:∃lv:Int,lv=if cG x.kind=1 then 2 else cG x.kind:=⟨_,rfl⟩
      rw[←hlv]at hTx
      refine aL ?_
      simp[q1]
      refine⟨⟨⟨by omega,by omega⟩,by omega⟩,?_⟩
      refine oS.sy ?_
      simp
      refine aO (ι:=Unit) (fun i=>aY [(1,.bx 1 0),(3,.bx 3 0),(4,.d (aC lv))]) (fun i=>aK [(1,.box false [.d (aC x.kind),.d (.str x.text),.d (aC x.n),.d (ndsD x.kids)]),(3,.box false [.d (.str (qE x.kind)),.d (aC (cG x.kind))])]) (fun i=>True) ?_ fun i hc15=>?_
      ·refine oS.sy ?_
       simp
       refine aB ?_
       simp
       refine⟨fun h13=>?_,fun h13=>?_⟩
       ·refine aL ?_
        simp
        exact(aA [1,3,4] [(1,1),(3,3)] (by decide) (by decide) (by simp[hp]) (by simp[hlv,h13]) (by simp))
       ·refine oS.skip ?_
        simp
        exact(aA [1,3,4] [(1,1),(3,3)] (by decide) (by decide) (by simp[hp]) (by simp[hlv,h13]) (by simp))
      ·refine oS.seq ?_
       rw[hks]at hwx ih
       simp only[weighL]at hwx
       have la:=eB a ra ea
       have lb:=eB b' rb eb
       have pa:=sM (decide (lvlN a.kind<lv)) (exprT a)
       have pb:=sM (decide (lvlN b'.kind<cG x.kind+1)) (exprT b')
       have sl:=He x.kind ⟨f0.1,hk31⟩
       have ka:=ES a lv (ih a (by simp) ra ea (by omega)) (by omega)
       have kb:=ES b' (cG x.kind+1) (ih b' (by simp) rb eb (by omega)) (by omega)
       have lvb:=(Ld f0.1 hk31).2.1
       refine aF hT hW bI (lk [[],[0],[0,1],[0,1,2],[],[0,1,2,3,4],[0,1,2,3,4,5],[],[7],[0,1,2,3,4,5,6,7,8],[0,1,2,3,4,5,6,7,8,9],[],[11],[11,12],[11,12,13],[],[15],[15,16],[0,1,2,3,4,5,11,12,13,14,15,16,17],[0,1,2,3,4,5,6,7,8,9,10,11,12,13,14,15,16,17,18],[0,1,2,3,4,5,6,7,8,9,10,11,12,13,14,15,16,17,18,19]]) (lk [[],[],[],[],[],[],[51],[38,51],[38,51],[51],[51],[38],[38],[38],[38],[38],[38],[38],[],[],[]]) (lk [[],[],[],[],[],[38],[],[],[],[],[],[],[],[],[],[],[],[],[51],[],[]]) (by kernel_rfl) (fun|38=>some<| .plain ⟨.d (.str (paren (decide (lvlN a.kind<lv)) (exprT a))),true⟩|51=>some<| .plain ⟨.d (.str (paren (decide (lvlN b'.kind<cG x.kind+1)) (exprT b'))),true⟩|_=>none) (by intro d;first|exact⟨rfl,fun _ h=>h⟩|(split<;>exact⟨rfl,fun _ h=>h⟩)) ?_
       simp[hks]
       refine⟨⟨⟨⟨⟨⟨⟨by simpa using ka,by omega⟩,by omega⟩,by omega⟩,by omega⟩,by simpa using kb⟩,by omega⟩,?_⟩
       refine oS.ret ?_
       simp[hTx]
theorem AD(x:Nd):aI x=true→aH x.kind=true→weighN x≤1000000000→Ok Tryz.prog 223 [x.d] ⟨.d (.str (exprT x)),true⟩:=
 qX (p:=fun x=>aI x=true→aH x.kind=true→weighN x≤1000000000→Ok Tryz.prog 223 [x.d] ⟨.d (.str (exprT x)),true⟩) (fun _ _ _ _ ih hr he hw=>Ln _ hr he hw ih) x
end
open Go.Proofs
section
attribute[local simp] oZ.cond Nd.d_eq nd_t nd_dr nd_td ndsD
theorem Nw:wK=jA.map DV.str:=rfl
theorem pT:wK.length=26:=rfl
theorem vZ{k:Int}(h0:0≤k)(h1:k<26):wK[k.toNat]?.getD default=.str (cX k):=by
 have hk:k.toNat<jA.length:=by rw[KT];omega
 rw[Nw,List.getElem?_map,List.getElem?_eq_getElem hk]
 simp[cX,List.getD_eq_getElem?_getD,hk]
theorem uX(k:Int):(cX k).length≤7:=by
 unfold cX
 rw[List.getD_eq_getElem?_getD]
 cases e:jA[k.toNat]? with
 |none=>simp
 |some w=>
  have:=List.mem_of_getElem? e
  have h:∀w∈jA,w.length≤7:=by decide
  exact h w this
theorem uI:∀(a b:List Nd),stmtsT (a++b)=stmtsT a++stmtsT b
 |[],b=>by simp[stmtsT]
 |x::a,b=>by simp[stmtsT,uI a b]
theorem BV{l:List Nd}{i:Nat}(hi:i<l.length):stmtsT (l.take (i+1))=stmtsT (l.take i)++(stmtT l[i]++[32]):=by
 rw[←List.take_append_getElem hi,uI];simp[stmtsT]
theorem IY{l:List Nd}{i:Nat}(hi:i<l.length):withE (l.take (i+1))=withE (l.take i)++32::exprT l[i]:=by
 unfold withE
 rw[←List.take_append_getElem hi,List.flatMap_append];simp
theorem yV{l:List Nd}(h:∀e∈l,aI e=true∧aH e.kind=true):(withE l).length≤9*weighL l:=by
 induction l with
 |nil=>simp[withE]
 |cons a r ih=>
  have h1:=ih fun y hy=>h y (List.mem_cons_of_mem _ hy)
  have h2:=eB a (h a (by simp)).1 (h a (by simp)).2
  have h3:1≤weighN a:=by rw[weighN_eq];omega
  have e:withE (a::r)=32::exprT a++withE r:=by simp[withE]
  rw[e,weighL]
  simp only[List.length_append,List.length_cons]
  omega
def Lo(t e:aR):aR:=36::t++32::61::32::(e++[59])
def Lp(p e:aR):aR:=p++32::61::32::(e++[59])
def JS(w e b:aR):aR:=w++32::(e++32::b)
def ET(a c:aR):aR:=a++32::(eD++32::c)
theorem Dz{l:List Nd}(h:∀e∈l,aI e=true∧aH e.kind=true)(i:Nat):(withE (l.take i)).length≤9*weighL l:=by
 have h1:=yV h
 have h2:withE (l.take i)++withE (l.drop i)=withE l:=by unfold withE;rw[←List.flatMap_append,List.take_append_drop]
 rw[←h2,List.length_append]at h1
 omega
theorem JT{x e:Nd}(h:x.kind=9)(hk:x.kids=[e]):stmtT x=Lo x.text (exprT e):=by
 cases x;simp only[kK,sU]at h hk;subst hk;subst h;simp[stmtT,Lo]
theorem Hf{x p e:Nd}(h:x.kind=10)(hk:x.kids=[p,e]):stmtT x=Lp (exprT p) (exprT e):=by
 cases x;simp only[kK,sU]at h hk;subst hk;subst h;simp[stmtT,Lp]
theorem EU{x e b:Nd}(h:x.kind=11∨x.kind=12)(hk:x.kids=[e,b]):stmtT x=JS (cX x.kind) (exprT e) (blockT b):=by
 cases x;simp only[kK,sU]at h hk;subst hk;rcases h with rfl|rfl<;>simp[stmtT,JS]
theorem EV{x e b c:Nd}(h:x.kind=11∨x.kind=12)(hk:x.kids=[e,b,c]):stmtT x=ET (JS (cX x.kind) (exprT e) (blockT b)) (blockT c):=by
 cases x;simp only[kK,sU]at h hk;subst hk;rcases h with rfl|rfl<;>simp[stmtT,JS,ET]
theorem JU{x:Nd}(h:13≤x.kind):stmtT x=cX x.kind++midT x.kind x.text++withN x.n++withE x.kids++[59]:=by
 cases x;exact EQ _ _ _ h
theorem uY(x:Nd):blockT x=123::32::(stmtsT x.kids++[125]):=by cases x;unfold blockT;rfl
def Pr(x:Nd):Prop:=aI x=true∧aH x.kind=true
theorem DA{x:Nd}(hr:aI x=true)(hk:cM x.kind=true):(9≤x.kind∧x.kind≤25)∧(x.kind=9→∃h0:0<x.kids.length,Pr x.kids[0]∧stmtT x=Lo x.text (exprT x.kids[0]))∧
 (x.kind=10→∃(h0:0<x.kids.length) (h1:1<x.kids.length),Pr x.kids[0]∧Pr x.kids[1]∧stmtT x=Lp (exprT x.kids[0]) (exprT x.kids[1]))∧
 (x.kind=11∨x.kind=12→∃(h0:0<x.kids.length) (h1:1<x.kids.length),Pr x.kids[0]∧nZ x.kids[1]∧((x.kids.length=2∧stmtT x=JS (cX x.kind) (exprT x.kids[0]) (blockT x.kids[1]))∨
  ∃h2:2<x.kids.length,nZ x.kids[2]∧stmtT x=ET (JS (cX x.kind) (exprT x.kids[0]) (blockT x.kids[1])) (blockT x.kids[2])))∧
 (13≤x.kind→IR x.kind x.text x.n x.kids):=by
 refine⟨tY.1 hk,?_⟩
 rcases Dw hr hk with⟨t',e,hx,h1,h2,h3⟩|⟨p,e,hx,h1,h2,h3,h4⟩|⟨k',e,b,hk',hx,h1,h2,h3,h4⟩|⟨e,b,c,hx,h1,h2,h3,h4,h5,h6⟩|⟨k',t',n',ks',h1,h2,hx,h3⟩
 ·subst hx
  exact⟨fun _=>⟨by simp,⟨h2,h3⟩,JT rfl rfl⟩,fun h=>by simp at h,fun h=>by simp at h,fun h=>by simp at h⟩
 ·subst hx
  exact⟨fun h=>by simp at h,fun _=>⟨by simp,by simp,⟨h1,tA h2⟩,⟨h3,h4⟩,Hf rfl rfl⟩,fun h=>by simp at h,fun h=>by simp at h⟩
 ·subst hx
  exact⟨fun h=>by simp at h;omega,fun h=>by simp at h;omega,fun _=>⟨by simp,by simp,⟨h1,h2⟩,mL h3 h4,.inl ⟨rfl,EU hk' rfl⟩⟩,fun h=>by simp at h;omega⟩
 ·subst hx
  exact⟨fun h=>by simp at h,fun h=>by simp at h,fun _=>⟨by simp,by simp,⟨h1,h2⟩,mL h3 h4,.inr ⟨by simp,mL h5 h6,EV (.inl rfl) rfl⟩⟩,fun h=>by simp at h⟩
 ·subst hx
  exact⟨fun h=>by simp at h;omega,fun h=>by simp at h;omega,fun h=>by simp at h;omega,fun _=>h3⟩
theorem FT(k:Int)(t:aR):(midT k t).length≤t.length+2:=by
 unfold midT;split
 ·simp
 ·split<;>simp
theorem Bn(n:Int):(withN n).length≤5:=by
 have:=lU n
 unfold withN;split
 ·simp only[List.length_cons];omega
 ·simp
theorem wN{l:List Nd}(h:∀y∈l,(stmtT y).length+1≤40*weighN y)(i:Nat):(stmtsT (l.take i)).length≤40*weighL l:=by
 have key:∀l:List Nd,(∀y∈l,(stmtT y).length+1≤40*weighN y)→(stmtsT l).length≤40*weighL l:=fun l=>by
  induction l with
  |nil=>intro _;simp[stmtsT]
  |cons a r ih=>
   intro h
   have h1:=ih fun y hy=>h y (List.mem_cons_of_mem _ hy)
   have h2:=h a (by simp)
   have h3:1≤weighN a:=by rw[weighN_eq];omega
   simp only[stmtsT,weighL,List.length_append,List.length_cons]
   omega
 have h1:=key l h
 have h2:=uI (l.take i) (l.drop i)
 rw[List.take_append_drop]at h2
 rw[h2,List.length_append]at h1
 omega
theorem iO(x:Nd):(aI x=true→cM x.kind=true→(stmtT x).length+1≤40*weighN x)∧(nZ x→(blockT x).length≤40*weighN x):=by
 refine qX (p:=fun x=>(aI x=true→cM x.kind=true→(stmtT x).length+1≤40*weighN x)∧(nZ x→(blockT x).length≤40*weighN x)) (fun k t n ks ih=>⟨?_,?_⟩) x
 ·intro hr hk
  have hw:weighN (.mk k t n ks)=weighL ks+t.length+1:=by rw[weighN]
  have hwl:=uX k
  rcases Dw hr hk with⟨t',e,hx,h1,h2,h3⟩|⟨p,e,hx,h1,h2,h3,h4⟩|⟨k',e,b,hk',hx,h1,h2,h3,h4⟩|⟨e,b,c,hx,h1,h2,h3,h4,h5,h6⟩|⟨k',t',n',ks',h1,h2,hx,h3⟩
  ·injection hx with i1 i2 i3 i4
   subst i1;subst i2;subst i4
   have:=eB e h2 h3
   rw[JT rfl rfl,hw]
   simp only[Lo,weighL,List.length_append,List.length_cons,List.length_nil,vV]
   omega
  ·injection hx with i1 i2 i3 i4
   subst i1;subst i4
   have:=eB e h3 h4
   have:=eB p h1 (tA h2)
   rw[Hf rfl rfl,hw]
   simp only[Lp,weighL,List.length_append,List.length_cons,List.length_nil]
   omega
  ·injection hx with i1 i2 i3 i4
   subst i1;subst i4
   have:=eB e h1 h2
   have:=(ih b (by simp)).2 (mL h3 h4)
   rw[EU (x:=.mk k t n [e,b]) hk' rfl,hw]
   simp only[JS,weighL,List.length_append,List.length_cons,kK]
   omega
  ·injection hx with i1 i2 i3 i4
   subst i1;subst i4
   have:=eB e h1 h2
   have:=(ih b (by simp)).2 (mL h3 h4)
   have:=(ih c (by simp)).2 (mL h5 h6)
   rw[EV (.inl rfl) rfl,hw]
   simp only[JS,ET,weighL,List.length_append,List.length_cons,kK,show eD.length=4 from rfl]
   omega
  ·injection hx with i1 i2 i3 i4
   subst i1;subst i2;subst i3;subst i4
   have:=yV (yU h3).2.2.2
   have:=FT k t
   have:=Bn n
   rw[EQ _ _ _ h1,hw]
   simp only[List.length_append,List.length_cons,List.length_nil]
   omega
 ·rintro⟨ks',hx,hy⟩
  injection hx with i1 i2 i3 i4
  subst i4
  have key:∀l:List Nd,(∀y∈l,(stmtT y).length+1≤40*weighN y)→(stmtsT l).length≤40*weighL l:=fun l=>by
   induction l with
   |nil=>intro _;simp[stmtsT]
   |cons a r ih=>
    intro h
    have h1:=ih fun y hy=>h y (List.mem_cons_of_mem _ hy)
    have h2:=h a (by simp)
    have h3:1≤weighN a:=by rw[weighN_eq];omega
    simp only[stmtsT,weighL,List.length_append,List.length_cons]
    omega
  have:=key ks fun y hyk=>(ih y hyk).1 (hy y hyk).1 (hy y hyk).2
  rw[uY,weighN]
  simp only[sU,List.length_append,List.length_cons,List.length_nil]
  omega
theorem IZ(x:Nd)(hb:nZ x)(hw:weighN x≤1000000000)(ih:∀y∈x.kids,Ok Tryz.prog 167 [y.d] ⟨.d (.str (stmtT y)),true⟩):Ok Tryz.prog 122 [x.d] ⟨.d (.str (blockT x)),true⟩:=by
 refine Ok.ret Tryz.func122 (by kernel_rfl) (c:=_) rfl Tryz.ntmps122 (by simp) Tryz.results122 (by intro _ h;cases h) fun w0 X hp=>?_
 have hlen:=(iO x).2 hb
 have hwx:=pN x
 have hstm:∀y∈x.kids,aI y=true∧cM y.kind=true:=by obtain⟨ks,rfl,h⟩:=hb;exact h
 refine oS.sy ?_
 simp
 refine oS.sy ?_
 simp
 refine oS.seq ?_
 refine oS.sy ?_
 simp
 refine oS.block ?_
 refine cA (ι:=Nat) (fun i=>aY [(3,.d (.str (123::32::stmtsT (x.kids.take i)))),(7,.d (ndsD x.kids)),(8,.d (aC x.kids.length)),(9,.d (aC i))]) (fun i=>aK []) (fun i=>i≤x.kids.length) (fun i=>x.kids.length-i) 0 (aA [3,7,8,9] [] (by decide) (by decide) (by simp[hp]) (by simp[stmtsT]) (by simp)) (Nat.zero_le _) fun i hi3=>?_
 refine oS.sy ?_
 simp
 refine oS.seq ?_
 refine aB ?_
 simp
 refine⟨fun h3=>?_,fun h3=>?_⟩
 ·refine oS.skip ?_
  simp
  refine oS.seq ?_
  refine oS.block ?_
  refine oS.seq ?_
  have hi:i<x.kids.length:=by omega
  refine aL ?_
  simp[hi]
  have hk:=ih _ (List.getElem_mem hi)
  have hs:=hstm _ (List.getElem_mem hi)
  have l1:=(iO x.kids[i]).1 hs.1 hs.2
  have l2:=oE hi
  have l3:=wN (l:=x.kids) (fun y hy=>(iO y).1 (hstm y hy).1 (hstm y hy).2) i
  have l4:=weighN_eq x
  refine oS.ro hT hW (fun|15=>some<| .plain ⟨.d (.str (stmtT x.kids[i])),true⟩|_=>none) ?_
  simp
  refine⟨⟨⟨by simpa using hk,by omega⟩,by omega⟩,?_⟩
  refine aL ?_
  simp
  refine⟨by omega,?_⟩
  refine JK.mk (i+1) (aA [3,7,8,9] [] (by decide) (by decide) (by simp[hp]) (by simp[BV hi]) (by simp)) ?_ ?_
  ·omega
  ·omega
 ·refine oS.exit ?_
  simp
  refine oS.seq ?_
  have hi:i=x.kids.length:=by omega
  subst hi
  rw[List.take_length]
  rw[uY]at hlen
  simp only[List.length_append,List.length_cons]at hlen
  refine aL ?_
  simp
  refine⟨by omega,?_⟩
  refine oS.ret ?_
  simp[uY]
end
open Go.Proofs
section
attribute[local simp] oZ.cond Nd.d_eq nd_t nd_dr nd_td ndsD
theorem Lq(x:Nd)(hr:aI x=true)(hk:cM x.kind=true)(hw:weighN x≤1000000000)(ihb:∀y∈x.kids,nZ y→Ok Tryz.prog 122 [y.d] ⟨.d (.str (blockT y)),true⟩):Ok Tryz.prog 167 [x.d] ⟨.d (.str (stmtT x)),true⟩:=by
 refine Ok.ret Tryz.func167 (by kernel_rfl) (c:=_) rfl Tryz.ntmps167 (by simp) Tryz.results167 (by intro _ h;cases h) fun w0 X hp=>?_
 obtain⟨f0,f9,f10,f11,f13⟩:=DA hr hk
 have hwx:=weighN_eq x
 have hlen:=(iO x).1 hr hk
 have wl:=uX x.kind
 have q2:=pT
 have hmem:∀(i:Nat) (hi:i<x.kids.length),weighN x.kids[i]<weighN x:=fun i hi=>oE hi
 refine oS.sy ?_
 simp
 refine oS.seq ?_
 refine oS.sy ?_
 simp
 refine oS.block ?_
 refine oS.sy ?_
 simp
 refine aB ?_
 simp
 refine⟨fun h2=>?_,fun h2=>?_⟩
 ·refine oS.seq ?_
  obtain⟨h0,k0,e0⟩:=f9 h2
  have w0:=hmem 0 h0
  have l0:=eB _ k0.1 k0.2
  have c0:=AD _ k0.1 k0.2 (by omega)
  refine aF hT hW bI (lk [[],[0],[0,1],[0,1,2],[],[4],[4,5],[4,5,6],[4,5,6,7],[0,1,2,3,4,5,6,7,8],[0,1,2,3,4,5,6,7,8,9],[0,1,2,3,4,5,6,7,8,9,10]]) (lk [[19],[19],[19],[19],[],[],[],[],[],[],[],[]]) (lk [[],[],[],[],[],[],[],[],[19],[],[],[]]) (by kernel_rfl) (fun|19=>some<| .plain ⟨.d (.str (exprT x.kids[0])),true⟩|_=>none) (by intro d;first|exact⟨rfl,fun _ h=>h⟩|(split<;>exact⟨rfl,fun _ h=>h⟩)) ?_
  simp[h0]
  refine⟨⟨⟨⟨⟨by omega,by omega⟩,by simpa using c0⟩,by omega⟩,by omega⟩,?_⟩
  refine oS.ret ?_
  simp[e0,Lo]
 ·refine oS.sy ?_
  simp
  refine aB ?_
  simp
  refine⟨fun h4=>?_,fun h4=>?_⟩
  ·refine oS.seq ?_
   obtain⟨h0,h1,k0,k1,e0⟩:=f10 h4
   have w0:=hmem 0 h0
   have w1:=hmem 1 h1
   have l0:=eB _ k0.1 k0.2
   have l1:=eB _ k1.1 k1.2
   have c0:=AD _ k0.1 k0.2 (by omega)
   have c1:=AD _ k1.1 k1.2 (by omega)
   refine aF hT hW bI (lk [[],[0],[0,1],[0,1,2],[0,1,2,3],[0,1,2,3,4],[],[6],[6,7],[6,7,8],[0,1,2,3,4,6,7,8,9],[0,1,2,3,4,5,6,7,8,9,10],[0,1,2,3,4,5,6,7,8,9,10,11],[0,1,2,3,4,5,6,7,8,9,10,11,12]]) (lk [[],[],[],[],[],[34],[28],[28],[28],[28],[],[],[],[]]) (lk [[],[],[],[],[28],[],[],[],[],[],[34],[],[],[]]) (by kernel_rfl) (fun|28=>some<| .plain ⟨.d (.str (exprT x.kids[0])),true⟩|34=>some<| .plain ⟨.d (.str (exprT x.kids[1])),true⟩|_=>none) (by intro d;first|exact⟨rfl,fun _ h=>h⟩|(split<;>exact⟨rfl,fun _ h=>h⟩)) ?_
   simp[h0,h1]
   refine⟨by(repeat' with_reducible apply And.intro)<;>first|omega|(simpa using c0)|(simpa using c1),?_⟩
   refine oS.ret ?_
   simp[e0,Lp]
  ·refine aO (ι:=BC) (fun⟨b⟩=>aY [(1,.bx 1 0),(37,.d (.bool b))]) (fun⟨b⟩=>aK [(1,.box false [.d (aC x.kind),.d (.str x.text),.d (aC x.n),.d (ndsD x.kids)])]) (fun⟨b⟩=>b=true↔(x.kind=11∨x.kind=12)) ?_ fun⟨b⟩ hc8=>?_
   ·refine oS.sy ?_
    simp
    refine aB ?_
    simp
    refine⟨fun h6=>?_,fun h6=>?_⟩
    ·refine oS.skip ?_
     simp
     refine Pg.mk ⟨decide (x.kind=11)⟩ (aA [1,37] [(1,1)] (by decide) (by decide) (by simp[hp]) (by simp) (by simp)) ?_
     simp[h6]
    ·refine aL ?_
     simp
     refine Pg.mk ⟨decide (x.kind=12)⟩ (aA [1,37] [(1,1)] (by decide) (by decide) (by simp[hp]) (by simp) (by simp)) ?_
     simp only[decide_eq_true_eq];omega
   ·refine aB ?_
    simp
    refine⟨fun h8=>?_,fun h8=>?_⟩
    ·have q8:=hc8.1 h8
     refine oS.seq ?_
     obtain⟨h0,h1,k0,b1,e0⟩:=f11 q8
     have w0:=hmem 0 h0
     have w1:=hmem 1 h1
     have l0:=eB _ k0.1 k0.2
     have l1:=(iO x.kids[1]).2 b1
     have c0:=AD _ k0.1 k0.2 (by omega)
     have c1:=ihb _ (List.getElem_mem h1) b1
     have q1:=vZ (k:=x.kind) (by omega) (by omega)
     refine aF hT hW bI (lk [[],[0],[0,1],[0,1,2],[0,1,2,3],[],[5],[5,6],[5,6,7],[5,6,7,8],[0,1,2,3,4,5,6,7,8,9],[0,1,2,3,4,5,6,7,8,9,10],[],[12],[12,13],[12,13,14],[5,6,7,8,9,12,13,14,15],[0,1,2,3,4,5,6,7,8,9,10,11,12,13,14,15,16],[0,1,2,3,4,5,6,7,8,9,10,11,12,13,14,15,16,17]]) (lk [[49,56],[49,56],[49,56],[49,56],[49,56],[],[],[],[],[],[56],[56],[49],[49],[49],[49],[],[],[]]) (lk [[],[],[],[],[],[],[],[],[],[49],[],[],[],[],[],[],[56],[],[]]) (by kernel_rfl) (fun|49=>some<| .plain ⟨.d (.str (exprT x.kids[0])),true⟩|56=>some<| .plain ⟨.d (.str (blockT x.kids[1])),true⟩|_=>none) (by intro d;first|exact⟨rfl,fun _ h=>h⟩|(split<;>exact⟨rfl,fun _ h=>h⟩)) ?_
     simp[h0,h1,q1]
     refine⟨⟨⟨⟨⟨⟨⟨⟨⟨by omega,by omega⟩,by omega⟩,by simpa using c0⟩,by omega⟩,by omega⟩,by omega⟩,by simpa using c1⟩,by omega⟩,?_⟩
     refine oS.seq ?_
     refine oS.sy ?_
     simp
     refine aB ?_
     simp
     refine⟨fun h9=>?_,fun h9=>?_⟩
     ·have h2':2<x.kids.length:=by omega
      rcases e0 with⟨e0,_⟩|⟨_,b2,e0⟩
      ·omega
      have w2:=hmem 2 h2'
      have l2:=(iO x.kids[2]).2 b2
      have c2:=ihb _ (List.getElem_mem h2') b2
      refine oS.ro hT hW (fun|67=>some<| .plain ⟨.d (.str (blockT x.kids[2])),true⟩|_=>none) ?_
      simp[h2']
      refine⟨by(repeat' with_reducible apply And.intro)<;>first|omega|(simpa using c2),?_⟩
      refine oS.sy ?_
      simp
      refine oS.ret ?_
      simp[e0,JS,ET,eD]
     ·refine oS.skip ?_
      simp
      refine oS.sy ?_
      simp
      refine oS.ret ?_
      rcases e0 with⟨_,e0⟩|⟨h2,_,_⟩
      ·simp[e0,JS]
      ·omega
    ·have q8:¬(x.kind=11∨x.kind=12):=fun q=>by simp[hc8.2 q]at h8
     refine oS.skip ?_
     simp
     refine oS.seq ?_
     have hcm:=f13 (by omega)
     obtain⟨g1,g2,g3,g4⟩:=yU hcm
     have e0:=JU (x:=x) (by omega)
     have ml:=FT x.kind x.text
     have nl:=Bn x.n
     have kl:=yV g4
     have q1:=vZ (k:=x.kind) (by omega) (by omega)
     refine aL ?_
     simp[q1]
     refine⟨by(repeat' with_reducible apply And.intro)<;>omega,?_⟩
     refine aO (ι:=Unit) (fun i=>aY [(1,.bx 1 0),(4,.d (.str (cX x.kind++midT x.kind x.text)))]) (fun i=>aK [(1,.box false [.d (aC x.kind),.d (.str x.text),.d (aC x.n),.d (ndsD x.kids)])]) (fun i=>True) ?_ fun i hc21=>?_
     ·refine oS.sy ?_
      simp
      refine oS.block ?_
      refine aO (ι:=BC) (fun⟨b⟩=>aY [(1,.bx 1 0),(4,.d (.str (cX x.kind))),(76,.d (aC x.kind)),(82,.d (.bool b))]) (fun⟨b⟩=>aK [(1,.box false [.d (aC x.kind),.d (.str x.text),.d (aC x.n),.d (ndsD x.kids)])]) (fun⟨b⟩=>b=true↔(x.kind=19∨x.kind=20)) ?_ fun⟨b⟩ hc17=>?_
      ·refine oS.sy ?_
       simp
       refine aB ?_
       simp
       refine⟨fun h15=>?_,fun h15=>?_⟩
       ·refine oS.skip ?_
        simp
        refine Pg.mk ⟨decide (x.kind=19)⟩ (aA [1,4,76,82] [(1,1)] (by decide) (by decide) (by simp[hp]) (by simp) (by simp)) ?_
        simp[h15]
       ·refine aL ?_
        simp
        refine Pg.mk ⟨decide (x.kind=20)⟩ (aA [1,4,76,82] [(1,1)] (by decide) (by decide) (by simp[hp]) (by simp) (by simp)) ?_
        simp only[decide_eq_true_eq];omega
      ·refine aB ?_
       simp
       refine⟨fun h17=>?_,fun h17=>?_⟩
       ·have q17:=hc17.1 h17
        refine aL ?_
        simp
        refine⟨by(repeat' with_reducible apply And.intro)<;>omega,?_⟩
        exact(aA [1,4] [(1,1)] (by decide) (by decide) (by simp[hp]) (by simp[midT,q17]) (by simp))
       ·have q17:¬(x.kind=19∨x.kind=20):=fun q=>by simp[hc17.2 q]at h17
        refine aO (ι:=BC) (fun⟨b⟩=>aY [(1,.bx 1 0),(4,.d (.str (cX x.kind))),(76,.d (aC x.kind)),(90,.d (.bool b))]) (fun⟨b⟩=>aK [(1,.box false [.d (aC x.kind),.d (.str x.text),.d (aC x.n),.d (ndsD x.kids)])]) (fun⟨b⟩=>b=true↔(x.kind=21∨x.kind=25∨x.kind=24)) ?_ fun⟨b⟩ hc14=>?_
        ·refine oS.sy ?_
         simp
         refine aB ?_
         simp
         refine⟨fun h18=>?_,fun h18=>?_⟩
         ·refine oS.skip ?_
          simp
          refine Pg.mk ⟨decide (x.kind=21)⟩ (aA [1,4,76,90] [(1,1)] (by decide) (by decide) (by simp[hp]) (by simp) (by simp)) ?_
          simp[h18]
         ·refine oS.sy ?_
          simp
          refine aB ?_
          simp
          refine⟨fun h19=>?_,fun h19=>?_⟩
          ·refine oS.skip ?_
           simp
           refine Pg.mk ⟨decide (x.kind=25)⟩ (aA [1,4,76,90] [(1,1)] (by decide) (by decide) (by simp[hp]) (by simp) (by simp)) ?_
           simp[h19]
          ·refine aL ?_
           simp
           refine Pg.mk ⟨decide (x.kind=24)⟩ (aA [1,4,76,90] [(1,1)] (by decide) (by decide) (by simp[hp]) (by simp) (by simp)) ?_
           simp only[decide_eq_true_eq];omega
        ·refine aB ?_
         simp
         refine⟨fun h14=>?_,fun h14=>?_⟩
         ·have q14:=hc14.1 h14
          refine oS.skip ?_
          simp
          exact(aA [1,4] [(1,1)] (by decide) (by decide) (by simp[hp]) (by simp[midT,q17,q14]) (by simp))
         ·have q14:¬(x.kind=21∨x.kind=25∨x.kind=24):=fun q=>by simp[hc14.2 q]at h14
          refine aL ?_
          simp
          refine⟨by(repeat' with_reducible apply And.intro)<;>omega,?_⟩
          exact(aA [1,4] [(1,1)] (by decide) (by decide) (by simp[hp]) (by simp[midT,q17,q14]) (by simp))
     ·refine aO (ι:=Unit) (fun i=>aY [(1,.bx 1 0),(4,.d (.str (cX x.kind++(midT x.kind x.text++withN x.n))))]) (fun i=>aK [(1,.box false [.d (aC x.kind),.d (.str x.text),.d (aC x.n),.d (ndsD x.kids)])]) (fun i=>True) ?_ fun i hc23=>?_
      ·refine oS.sy ?_
       simp
       refine aB ?_
       simp
       refine⟨fun h21=>?_,fun h21=>?_⟩
       ·have ci:=AC x.n (by omega) g3
        have hn:withN x.n=32::iJ x.n:=by unfold withN;rw[if_pos h21]
        have il:=lU x.n
        refine oS.ro hT hW (fun|100=>some<| .plain ⟨.d (.str (iJ x.n)),true⟩|_=>none) ?_
        simp
        refine⟨by(repeat' with_reducible apply And.intro)<;>first|omega|(simpa using ci)|(simp only[List.length_append];omega),?_⟩
        exact(aA [1,4] [(1,1)] (by decide) (by decide) (by simp[hp]) (by simp[hn]) (by simp))
       ·refine oS.skip ?_
        simp
        exact(aA [1,4] [(1,1)] (by decide) (by decide) (by simp[hp]) (by simp[withN,show¬0<x.n by omega]) (by simp))
      ·refine oS.seq ?_
       refine oS.sy ?_
       simp
       refine oS.block ?_
       refine cA (ι:=Nat) (fun i=>aY [(4,.d (.str (cX x.kind++(midT x.kind x.text++(withN x.n++withE (x.kids.take i)))))),(104,.d (ndsD x.kids)),(105,.d (aC x.kids.length)),(106,.d (aC i))]) (fun i=>aK []) (fun i=>i≤x.kids.length) (fun i=>x.kids.length-i) 0 (aA [4,104,105,106] [] (by decide) (by decide) (by simp[hp]) (by simp[withE]) (by simp)) (Nat.zero_le _) fun i hi24=>?_
       refine oS.sy ?_
       simp
       refine oS.seq ?_
       refine aB ?_
       simp
       refine⟨fun h24=>?_,fun h24=>?_⟩
       ·refine oS.skip ?_
        simp
        refine oS.seq ?_
        refine oS.block ?_
        refine oS.seq ?_
        have hi:i<x.kids.length:=by omega
        refine aL ?_
        simp[hi]
        have ki:=g4 _ (List.getElem_mem hi)
        have wi:=hmem i hi
        have li:=eB _ ki.1 ki.2
        have ci:=AD _ ki.1 ki.2 (by omega)
        have lt:=Dz g4 i
        refine oS.ro hT hW (fun|112=>some<| .plain ⟨.d (.str (exprT x.kids[i])),true⟩|_=>none) ?_
        simp
        refine⟨by(repeat' with_reducible apply And.intro)<;>first|omega|(simpa using ci)|(simp only[List.length_append];omega),?_⟩
        have:=pN x
        refine aL ?_
        simp
        refine⟨by omega,?_⟩
        refine JK.mk (i+1) (aA [4,104,105,106] [] (by decide) (by decide) (by simp[hp]) (by simp[IY hi]) (by simp)) ?_ ?_
        ·omega
        ·omega
       ·refine oS.exit ?_
        simp
        refine oS.seq ?_
        have hi:i=x.kids.length:=by omega
        subst hi
        rw[List.take_length]
        refine aL ?_
        simp
        refine⟨by first|omega|(simp only[List.length_append];omega),?_⟩
        refine oS.ret ?_
        simp[e0]
end
open Go.Proofs
section
attribute[local simp] oZ.cond Nd.d_eq nd_t nd_dr nd_td ndsD
theorem Rw(x:Nd):(aI x=true→cM x.kind=true→weighN x≤1000000000→Ok Tryz.prog 167 [x.d] ⟨.d (.str (stmtT x)),true⟩)∧(nZ x→weighN x≤1000000000→Ok Tryz.prog 122 [x.d] ⟨.d (.str (blockT x)),true⟩):=by
 refine qX (p:=fun x=>(aI x=true→cM x.kind=true→weighN x≤1000000000→Ok Tryz.prog 167 [x.d] ⟨.d (.str (stmtT x)),true⟩)∧(nZ x→weighN x≤1000000000→Ok Tryz.prog 122 [x.d] ⟨.d (.str (blockT x)),true⟩)) (fun k t n ks ih=>⟨?_,?_⟩) x
 ·intro hr hk hw
  have hwk:∀y∈ks,weighN y≤1000000000:=fun y hy=>by have:=weigh_mem hy;rw[weighN]at hw;omega
  exact Lq _ hr hk hw fun y hy hb=>(ih y hy).2 hb (hwk y hy)
 ·intro hb hw
  have hwk:∀y∈ks,weighN y≤1000000000:=fun y hy=>by have:=weigh_mem hy;rw[weighN]at hw;omega
  obtain⟨ks',hx,hy⟩:=id hb
  injection hx with i1 i2 i3 i4
  exact IZ _ hb hw fun y hyk=>(ih y hyk).1 (hy y (i4▸hyk)).1 (hy y (i4▸hyk)).2 (hwk y hyk)
theorem Lr{x:Nd}:(itemT x).length≤9*weighN x:=by
 have:=lU x.n
 rw[weighN_eq]
 simp only[itemT,List.length_append,List.length_cons,List.length_nil]
 omega
theorem tF:∀l:List Nd,(l.flatMap itemT).length≤9*weighL l
 |[]=>by simp
 |a::r=>by
  have h1:=tF r
  have h2:=Lr (x:=a)
  simp only[List.flatMap_cons,weighL,List.length_append]
  omega
theorem DB{l:List Nd}{i:Nat}(hi:i<l.length):(l.take (i+1)).flatMap itemT=(l.take i).flatMap itemT++itemT l[i]:=by
 rw[←List.take_append_getElem hi,List.flatMap_append];simp
theorem xS{l:List Nd}(i:Nat):((l.take i).flatMap itemT).length≤9*weighL l:=by
 have h1:=tF l
 have h2:(l.take i).flatMap itemT++(l.drop i).flatMap itemT=l.flatMap itemT:=by rw[←List.flatMap_append,List.take_append_drop]
 rw[←h2,List.length_append]at h1
 omega
def pE(l:List Nd):aR:=l.flatMap itemT
theorem JV(x:Nd)(hd:Le x)(hw:weighN x≤1000000000):Ok Tryz.prog 62 [x.d] ⟨.d (.str (textT x)),true⟩:=by
 refine Ok.ret Tryz.func62 (by kernel_rfl) (c:=_) rfl Tryz.ntmps62 (by simp) Tryz.results62 (by intro _ h;cases h) fun w0 X hp=>?_
 obtain⟨ht,hd⟩:=hd
 have hwx:=weighN_eq x
 have wl:=uX x.kind
 have q2:=pT
 have f0:0≤x.kind∧x.kind≤6:=by rcases hd with⟨h|h,_⟩|⟨h,_⟩|⟨h,_⟩|⟨h,_⟩|⟨h|h,_⟩<;>omega
 have q1:=vZ (k:=x.kind) (by omega) (by omega)
 have il:=lU x.n
 refine oS.sy ?_
 simp
 refine oS.seq ?_
 refine aF hT hW bI (lk [[],[0],[0,1],[0,1,2],[0,1,2,3],[],[5],[0,1,2,3,4,5,6],[0,1,2,3,4,5,6,7]]) (lk [[],[],[],[],[],[],[],[],[]]) (lk [[],[],[],[],[],[],[],[],[]]) (by kernel_rfl) (fun _=>none) (fun _=>⟨rfl,fun _ h=>h⟩) ?_
 simp[q1]
 refine⟨by(repeat' with_reducible apply And.intro)<;>omega,?_⟩
 refine oS.seq ?_
 refine oS.sy ?_
 simp
 refine oS.block ?_
 refine aO (ι:=BC) (fun⟨b⟩=>aY [(1,.bx 1 0),(3,.d (.str (cX x.kind++32::x.text))),(15,.d (aC x.kind)),(16,.d (.bool b))]) (fun⟨b⟩=>aK [(1,.box false [.d (aC x.kind),.d (.str x.text),.d (aC x.n),.d (ndsD x.kids)])]) (fun⟨b⟩=>b=true↔(x.kind=5∨x.kind=6)) ?_ fun⟨b⟩ hc5=>?_
 ·refine oS.sy ?_
  simp
  refine aB ?_
  simp
  refine⟨fun h3=>?_,fun h3=>?_⟩
  ·refine oS.skip ?_
   simp
   refine Pg.mk ⟨decide (x.kind=5)⟩ (aA [1,3,15,16] [(1,1)] (by decide) (by decide) (by simp[hp]) (by simp) (by simp)) ?_
   simp[h3]
  ·refine aL ?_
   simp
   refine Pg.mk ⟨decide (x.kind=6)⟩ (aA [1,3,15,16] [(1,1)] (by decide) (by decide) (by simp[hp]) (by simp) (by simp)) ?_
   simp only[decide_eq_true_eq];omega
 ·refine aB ?_
  simp
  refine⟨fun h5=>?_,fun h5=>?_⟩
  ·have q5:=hc5.1 h5
   refine oS.seq ?_
   have hd5:∃b,x=.mk x.kind x.text 0 [b]∧nZ b:=by
    rcases hd with⟨_,h⟩|⟨h,_⟩|⟨h,_⟩|⟨h,_⟩|⟨h|h,_⟩<;>first|exact h|omega
   obtain⟨c,hx,hb⟩:=hd5
   have hks:x.kids=[c]:=by rw[hx];rfl
   rw[hks]at hwx
   simp only[weighL]at hwx
   have bl:=(iO c).2 hb
   have kb:=(Rw c).2 hb (by omega)
   refine oS.ro hT hW (fun|25=>some<| .plain ⟨.d (.str (blockT c)),true⟩|_=>none) ?_
   simp[hks]
   refine⟨⟨⟨by omega,by simpa using kb⟩,by omega⟩,?_⟩
   refine oS.ret ?_
   simp[textT,q5,hks]
  ·have q5:¬(x.kind=5∨x.kind=6):=fun q=>by simp[hc5.2 q]at h5
   refine oS.sy ?_
   simp
   refine aB ?_
   simp
   refine⟨fun h6=>?_,fun h6=>?_⟩
   ·refine oS.seq ?_
    have hd7:∀y∈x.kids,JP y:=by
     rcases hd with⟨h|h,_⟩|⟨_,_,h⟩|⟨h,_⟩|⟨h,_⟩|⟨h|h,_⟩<;>first|exact h|omega
    refine aL ?_
    simp
    refine⟨by omega,?_⟩
    refine oS.seq ?_
    refine oS.sy ?_
    simp
    refine oS.block ?_
    refine cA (ι:=Nat) (fun i=>aY [(3,.d (.str (cX x.kind++32::(x.text++32::123::32::pE (x.kids.take i))))),(32,.d (ndsD x.kids)),(33,.d (aC x.kids.length)),(34,.d (aC i))]) (fun i=>aK []) (fun i=>i≤x.kids.length) (fun i=>x.kids.length-i) 0 (aA [3,32,33,34] [] (by decide) (by decide) (by simp[hp]) (by simp[pE]) (by simp)) (Nat.zero_le _) fun i hi9=>?_
    refine oS.sy ?_
    simp
    refine oS.seq ?_
    refine aB ?_
    simp
    refine⟨fun h9=>?_,fun h9=>?_⟩
    ·refine oS.skip ?_
     simp
     refine oS.seq ?_
     refine oS.block ?_
     refine oS.seq ?_
     have hi:i<x.kids.length:=by omega
     refine aL ?_
     simp[hi]
     obtain⟨t',n',hy,g1,g2,g3⟩:=hd7 _ (List.getElem_mem hi)
     have en:x.kids[i].n=n':=by rw[hy];rfl
     have ci:=AC x.kids[i].n (by omega) (by omega)
     have lt:=xS (l:=x.kids) i
     have li:=lU x.kids[i].n
     have wi:=oE hi
     rw[weighN_eq x.kids[i]]at wi
     have lo:(pE (x.kids.take i)).length≤9*weighL x.kids:=lt
     refine aF hT hW bI (lk [[],[],[1],[1,2],[],[4],[4,5],[1,2,3,4,5,6],[1,2,3,4,5,6,7],[0,1,2,3,4,5,6,7,8],[0,1,2,3,4,5,6,7,8,9]]) (lk [[44],[44],[44],[44],[],[],[],[],[],[],[]]) (lk [[],[],[],[],[],[],[44],[],[],[],[]]) (by kernel_rfl) (fun|44=>some<| .plain ⟨.d (.str (iJ x.kids[i].n)),true⟩|_=>none) (by intro d;first|exact⟨rfl,fun _ h=>h⟩|(split<;>exact⟨rfl,fun _ h=>h⟩)) ?_
     simp
     refine⟨by(repeat' with_reducible apply And.intro)<;>first|omega|exact ci|(simp only[List.length_append,List.length_cons];omega),?_⟩
     have:=pN x
     refine aL ?_
     simp
     refine⟨by omega,?_⟩
     refine JK.mk (i+1) (aA [3,32,33,34] [] (by decide) (by decide) (by simp[hp]) (by simp[pE,DB hi,itemT]) (by simp)) ?_ ?_
     ·omega
     ·omega
    ·refine oS.exit ?_
     simp
     refine oS.seq ?_
     have hi:i=x.kids.length:=by omega
     subst hi
     rw[List.take_length]
     have lt:=tF x.kids
     have lo:(pE x.kids).length≤9*weighL x.kids:=lt
     refine aL ?_
     simp
     refine⟨by omega,?_⟩
     refine oS.ret ?_
     simp[textT,q5,h6,pE]
   ·refine oS.sy ?_
    simp
    refine aB ?_
    simp
    refine⟨fun h14=>?_,fun h14=>?_⟩
    ·have hd15: -999≤x.n∧x.n≤999:=by
      rcases hd with⟨h|h,_⟩|⟨h,_⟩|⟨_,_,h⟩|⟨h,_⟩|⟨h|h,_⟩<;>omega
     have ci:=AC x.n hd15.1 hd15.2
     refine oS.ro hT hW (fun|56=>some<| .plain ⟨.d (.str (iJ x.n)),true⟩|_=>none) ?_
     simp
     refine⟨by(repeat' with_reducible apply And.intro)<;>first|omega|exact ci,?_⟩
     refine oS.sy ?_
     simp
     refine⟨by omega,?_⟩
     refine oS.ret ?_
     simp[textT,q5,h6,h14]
    ·refine oS.sy ?_
     simp
     refine aB ?_
     simp
     refine⟨fun h16=>?_,fun h16=>?_⟩
     ·have hd17:0≤x.n∧x.n≤3:=by
       rcases hd with⟨h|h,_⟩|⟨h,_⟩|⟨h,_⟩|⟨_,_,h⟩|⟨h|h,_⟩<;>omega
      have ci:=AC x.n (by omega) (by omega)
      refine oS.ro hT hW (fun|64=>some<| .plain ⟨.d (.str (iJ x.n)),true⟩|_=>none) ?_
      simp
      refine⟨by(repeat' with_reducible apply And.intro)<;>first|omega|exact ci,?_⟩
      refine oS.sy ?_
      simp
      refine⟨by omega,?_⟩
      refine oS.ret ?_
      simp[textT,q5,h6,h14,h16]
     ·refine oS.skip ?_
      simp
      refine oS.sy ?_
      simp
      refine⟨by omega,?_⟩
      refine oS.ret ?_
      simp[textT,q5,h6,h14,h16]
end
open Go.Proofs
section
attribute[local simp] oZ.cond Nd.d_eq nd_t nd_dr nd_td ndsD bJ
theorem zR(c:UInt8):bF c=(decide (97≤(c.toNat:Int))&&decide ((c.toNat:Int)≤122)):=by
 unfold bF
 congr 1<;>(rw[decide_eq_decide,UInt8.le_iff_toNat_le];exact⟨fun h=>by have:(97:UInt8).toNat=97:=rfl;have:(122:UInt8).toNat=122:=rfl;omega,fun h=>by have:(97:UInt8).toNat=97:=rfl;have:(122:UInt8).toNat=122:=rfl;omega⟩)
theorem Bo(c:UInt8):aW c=(decide (48≤(c.toNat:Int))&&decide ((c.toNat:Int)≤57)):=by
 unfold aW
 congr 1<;>(rw[decide_eq_decide,UInt8.le_iff_toNat_le];exact⟨fun h=>by have:(48:UInt8).toNat=48:=rfl;have:(57:UInt8).toNat=57:=rfl;omega,fun h=>by have:(48:UInt8).toNat=48:=rfl;have:(57:UInt8).toNat=57:=rfl;omega⟩)
theorem yW(c:UInt8):Ok Tryz.prog 155 [.int .u8 (c.toNat:Int)] ⟨.d (.bool (bF c)),true⟩:=by
 refine Ok.ret Tryz.func155 (by kernel_rfl) (c:=_) rfl Tryz.ntmps155 (by simp) Tryz.results155 (by intro _ h;cases h) fun w0 X hp=>?_
 refine oS.sy ?_
 simp
 refine oS.sy ?_
 simp
 refine oS.ret ?_
 simp[zR]
theorem xT(c:UInt8):Ok Tryz.prog 157 [.int .u8 (c.toNat:Int)] ⟨.d (.bool (aW c)),true⟩:=by
 refine Ok.ret Tryz.func157 (by kernel_rfl) (c:=_) rfl Tryz.ntmps157 (by simp) Tryz.results157 (by intro _ h;cases h) fun w0 X hp=>?_
 refine oS.sy ?_
 simp
 refine oS.sy ?_
 simp
 refine oS.ret ?_
 simp[Bo]
theorem Nx(s:aR)(p:UInt8→Bool)(g:FuncId)(hg:∀c:UInt8,Ok Tryz.prog g [.int .u8 (c.toNat:Int)] ⟨.d (.bool (p c)),true⟩)(hl:s.length≤9223372036854775807):Ok Tryz.prog 158 [.str s,.fn g []] ⟨.d (aC (iX p s)),true⟩:=by
 refine Ok.ret Tryz.func158 (by kernel_rfl) (c:=_) rfl Tryz.ntmps158 (by simp) Tryz.results158 (by intro _ h;cases h) fun w0 X hp=>?_
 refine oS.sy ?_
 simp
 refine oS.sy ?_
 simp
 refine oS.seq ?_
 refine oS.block ?_
 refine cA (ι:=Nat) (fun i=>aY [(0,.d (.str s)),(1,.d (.fn g [])),(5,.d (aC i))]) (fun i=>aK []) (fun i=>i≤s.length∧∀(j:Nat) (h:j<s.length),j<i→p s[j]=true) (fun i=>s.length-i) 0 (aA [0,1,5] [] (by decide) (by decide) (by simp[hp]) (by simp) (by simp)) (⟨Nat.zero_le _,fun j _ h=>absurd h (Nat.not_lt_zero _)⟩) fun i hi2=>?_
 refine oS.seq ?_
 refine oS.seq ?_
 have hc:=hg (s.getD i 0)
 refine oS.ro hT hW (fun|15=>some<| .plain ⟨.d (.bool (p (s.getD i 0))),true⟩|_=>none) ?_
 simp[bV]
 refine⟨fun _=>by simpa using hc,?_⟩
 refine aB ?_
 simp
 refine⟨fun g1 g2=>?_,fun g=>?_⟩
 ·refine oS.skip ?_
  simp
  refine oS.block ?_
  refine aL ?_
  simp
  refine⟨by omega,?_⟩
  refine JK.mk (i+1) (aA [0,1,5] [] (by decide) (by decide) (by simp[hp]) (by simp) (by simp)) ?_ ?_
  ·refine⟨by omega,fun j hj q=>?_⟩
   rcases Nat.lt_or_ge j i with q'|q'
   ·exact hi2.2 j hj q'
   ·have:j=i:=by omega
    subst this
    simpa [g1]using g2
  ·omega
 ·refine oS.exit ?_
  simp
  refine oS.sy ?_
  simp
  refine oS.ret ?_
  simp
  have hr:=Pi (p:=p) (s:=s) hi2.1 (fun j hj=>hi2.2 j (by omega) hj) (fun hl=>by
   have:=g hl
   simpa [hl]using this)
  omega
theorem Ny(c:UInt8):Ok Tryz.prog 204 [.int .u8 (c.toNat:Int)] ⟨.d (.bool (bF c||aW c)),true⟩:=by
 refine Ok.ret Tryz.func204 (by kernel_rfl) (c:=_) rfl Tryz.ntmps204 (by simp) Tryz.results204 (by intro _ h;cases h) fun w0 X hp=>?_
 refine oS.sy ?_
 simp
 refine bY hT hW (fun|4=>some<| .plain ⟨.d (.bool (bF c)),true⟩|7=>some<| .plain ⟨.d (.bool (aW c)),true⟩|_=>none) ?_
 simp
 refine⟨⟨yW c,fun _=>xT c⟩,?_⟩
 refine oS.ret ?_
 simp
theorem Bp(s:aR):dN s=if s=[]∨bF (s[0]?.getD 0)=false then 0 else if 16<iX (fun c=>bF c||aW c) s then 0 else iX (fun c=>bF c||aW c) s:=by
 cases s with
 |nil=>rfl
 |cons c r=>
  have e:((c::r)[0]?.getD 0)=c:=rfl
  rw[e]
  unfold dN
  generalize iX (fun c=>bF c||aW c) (c::r)=n
  by_cases q:bF c=true
  ·simp only[q,if_true]
   by_cases h:n≤16
   ·simp[h,show¬16<n by omega]
   ·simp[h,show 16<n by omega]
  ·simp[q]
theorem FU(s:aR)(hl:s.length≤9223372036854775807):Ok Tryz.prog 156 [.str s] ⟨.d (aC (dN s)),true⟩:=by
 refine Ok.ret Tryz.func156 (by kernel_rfl) (c:=_) rfl Tryz.ntmps156 (by simp) Tryz.results156 (by intro _ h;cases h) fun w0 X hp=>?_
 refine oS.sy ?_
 simp
 refine oS.seq ?_
 refine bY hT hW (fun|9=>some<| .plain ⟨.d (.bool (bF (s.getD 0 0))),true⟩|_=>none) ?_
 simp
 refine⟨⟨fun h=>List.length_pos_iff.2 h,fun _=>yW _⟩,?_⟩
 refine aB ?_
 simp
 refine⟨fun g=>?_,fun g1 g2=>?_⟩
 ·refine oS.sy ?_
  simp
  refine oS.ret ?_
  simp
  rw[Bp,if_pos g]
  rfl
 ·refine oS.skip ?_
  simp
  refine oS.seq ?_
  have hr:=Nx s (fun c=>bF c||aW c) 204 (fun c=>Ny c) hl
  refine oS.ro hT hW (fun|13=>some<| .plain ⟨.d (aC (iX (fun c=>bF c||aW c) s)),true⟩|_=>none) ?_
  simp
  refine⟨by simpa using hr,?_⟩
  refine oS.seq ?_
  refine oS.sy ?_
  simp
  refine aB ?_
  simp
  refine⟨fun h4=>?_,fun h4=>?_⟩
  ·refine oS.sy ?_
   simp
   refine oS.ret ?_
   simp
   rw[Bp,if_neg,if_pos (by omega)]
   ·rfl
   intro q
   rcases q with q|q
   ·exact g1 (by simpa using q)
   ·simp[q]at g2
  ·refine oS.skip ?_
   simp
   refine oS.sy ?_
   simp
   refine oS.ret ?_
   simp
   rw[Bp,if_neg,if_neg (by omega)]
   intro q
   rcases q with q|q
   ·exact g1 (by simpa using q)
   ·simp[q]at g2
theorem zS:List.take 26 wK=jA.map DV.str:=rfl
theorem Hg(s:aR):Ok Tryz.prog 207 [.str s] ⟨.d (.bool (qY s)),true⟩:=by
 refine Ok.ret Tryz.func207 (by kernel_rfl) (c:=_) rfl Tryz.ntmps207 (by simp) Tryz.results207 (by intro _ h;cases h) fun w0 X hp=>?_
 refine oS.sy ?_
 simp
 refine oS.seq ?_
 have hi:=Nl jA s
 have q2:=pT
 refine oS.ro hT hW (fun|12=>some<| .plain ⟨.d (.bool (decide (s∈jA))),true⟩|_=>none) ?_
 simp[zS]
 refine⟨⟨fun _ _=>by omega,fun _ _=>hi⟩,?_⟩
 refine oS.ret ?_
 simp
 show _=(decide (s=[101,108,115,101])||decide (s=[107,105,110,100])||decide (s∈jA))
 simp only[Bool.beq_eq_decide_eq]
theorem EW(s:aR):Ok Tryz.prog 161 [.str s] ⟨.d (.bool (kQ s)),true⟩:=by
 refine Ok.ret Tryz.func161 (by kernel_rfl) (c:=_) rfl Tryz.ntmps161 (by simp) Tryz.results161 (by intro _ h;cases h) fun w0 X hp=>?_
 refine oS.sy ?_
 simp
 refine bY hT hW (fun|8=>some<| .plain ⟨.d (.bool (bF (s.getD 0 0))),true⟩|12=>some<| .plain ⟨.d (.bool (qY s)),true⟩|_=>none) ?_
 simp
 refine⟨⟨⟨fun h=>List.length_pos_iff.2 h,fun _=>yW _⟩,fun _ _=>Hg s⟩,?_⟩
 refine oS.ret ?_
 cases s<;>simp[kQ]
theorem AE(s:aR)(b:Bool)(hl:s.length≤9223372036854775807):Ok Tryz.prog 222 [.str s,.bool b] ⟨.d (.bool (cR s b)),true⟩:=by
 refine Ok.ret Tryz.func222 (by kernel_rfl) (c:=_) rfl Tryz.ntmps222 (by simp) Tryz.results222 (by intro _ h;cases h) fun w0 X hp=>?_
 refine oS.sy ?_
 simp
 refine bY hT hW (fun|9=>some<| .plain ⟨.d (aC (dN s)),true⟩|19=>some<| .plain ⟨.d (.bool (kQ s)),true⟩|_=>none) ?_
 simp
 refine⟨⟨⟨fun _=>FU s hl,fun _ _ _=>EW s⟩,fun h1 h2 h3=>⟨⟨h1,h2⟩,h3⟩⟩,?_⟩
 refine oS.ret ?_
 simp
 rw[Bool.eq_iff_iff]
 simp[cR]
 intro _ _
 omega
end
end Go.Eng
namespace Go.Proofs
open Go.Shelf
def Tryz.idxLay_ren:Go.Shelf.Ren:=⟨fun|217=>206|266=>242|n=>n,fun|9=>9|5=>5|3=>3|n=>n,fun|n=>n⟩
theorem Tryz.idxLay:Go.Proofs.Lays.n217 Tryz.prog Tryz.idxLay_ren:={
 mixed:=by kernel_rfl,
 f217:=Tryz.func206.trans (congrArg some (by kernel_rfl)),
 f266:=Tryz.func242.trans (congrArg some (by kernel_rfl)),
 t3:=Tryz.underlying3,
 a3:=Tryz.isAgg3,
 z3:=Tryz.sizeOf3,
 v3:=Tryz.zeroValue3,
 t5:=Tryz.underlying5,
 a5:=Tryz.isAgg5,
 z5:=Tryz.sizeOf5,
 v5:=Tryz.zeroValue5,
 t9:=Tryz.underlying9,
 a9:=Tryz.isAgg9,
 z9:=Tryz.sizeOf9,
 v9:=Tryz.zeroValue9}
end Go.Proofs
namespace Go.Eng
open Go.Proofs
attribute[local simp] mW kX iB bC mT fY hZ nM cN bG oZ.plain oZ.cond oZ.fail dP lW sT mM fP kN lG lH memless mF eJ iW tP Ee hO fI strip oL dV lK bU
 qC fQ iH iC iG oT lk cD dR bP bV bX nK eT oP iF iZ bS eK bK dG iA eV eW dW eX gF gG gH eY dX eZ dY fB gJ gK gN gO fC gR oK nH mkAgg sO AT jI bD hU aX.live TK.isNone TK.agg TK.isBool TK.isStr TK.isStruct Op.operands Call.operands
 bE cO cH cW eE nI lB cU dH iE eO kP aP frozen lI
 jM jN lC gD jP jQ jR jV lD gE jX jY jZ kC rJ lR nO nP nR nS nU kD jK gC eU Nm.d Df.d Ed.d xD xE nE xF jL rU rV dA dB
 xH xI rK xJ xK rL rM rN nV xL xM rO
 bT bA dJ lJ dK bR cB bM eN uF TK.isInt jO jW nQ gM hF dI eL eM fV eS fO lX sA nD wW rI
 nC kR mC mU cL eA dS kW jE jF iV sD gS cZ gT gU cD jT jU nN iI gV kE gP gQ fE
 cK gZ TK.isPtr eF bZ kF oU pR jS kA nT gI gL fD
attribute[local simp] dZ kG gW
section
attribute[local simp] oZ.cond Nd.d_eq nd_t nd_dr nd_td ndsD bJ
def wO(c:UInt8)(s:aR):Int:=match lS c s with|some q=>q.1.length|none=> -1
theorem JW(c:UInt8):∀s:aR,Lib.indexByte s c=wO c s
 |[]=>rfl
 |d::r=>by
  have ih:=JW c r
  unfold Lib.indexByte wO lS
  unfold wO at ih
  by_cases h:d=c
  ·simp[h]
  ·rw[if_neg h]
   rw[if_neg (by simpa using h)]
   rw[ih]
   cases lS c r with
   |none=>simp
   |some q=>
    simp only[Option.map_some,List.length_cons]
    rw[if_neg (by simp)]
    rfl
theorem Bq{c:UInt8}{s:aR}{q:aR×aR}(h:lS c s=some q):s.take q.1.length=q.1∧s.drop (q.1.length+1)=q.2∧q.1.length+1+q.2.length=s.length:=by
 have e:=Dv (a:=q.1) (b:=q.2) h
 rw[e]
 refine⟨by simp,?_,by simp;omega⟩
 rw[show q.1.length+1=(q.1++[c]).length by simp,show q.1++c::q.2=(q.1++[c])++q.2 by simp,List.drop_left]
theorem AF(s:aR)(c:UInt8):Ok Tryz.prog 206 [.str s,.int .u8 (c.toNat:Int)] ⟨.d (aC (wO c s)),true⟩:=by
 refine⟨⟨_,Tryz.func206,by kernel_rfl,rfl⟩,fun w X vs hX hr=>?_⟩
 match vs,hr.1 with
 |[u,v],_=>
  have h1:=hr.2 0 _ _ rfl rfl
  have h2:=hr.2 1 _ _ rfl rfl
  cases h1;cases h2
  refine(Go.Proofs.Any.stringslite_IndexByte Tryz.idxLay ⟨s.toArray⟩ (c.toNat:Int) w).mono ?_
  rintro e w' ⟨rfl,rfl⟩
  refine⟨_,rfl,En.refl _ _,none,?_⟩
  have e:((c.toNat:Int).toNat.toUInt8)=c:=by simp
  rw[e]
  simp only[]
  rw[JW]
  exact .int _ _
theorem Ls(s:aR)(c:UInt8)(hl:s.length≤9223372036854775807):Ok Tryz.prog 231 [.str s,.str [c]] ⟨.d (aC (wO c s)),true⟩:=by
 refine Ok.ret Tryz.func231 (by kernel_rfl) (c:=_) rfl Tryz.ntmps231 (by simp) Tryz.results231 (by intro _ h;cases h) fun w0 X hp=>?_
 refine oS.sy ?_
 simp
 refine oS.sy ?_
 simp
 refine oS.seq ?_
 refine oS.block ?_
 refine oS.sy ?_
 simp
 refine aB ?_
 simp
 refine⟨fun g=>?_,fun g=>?_⟩
 ·refine oS.sy ?_
  simp
  refine oS.ret ?_
  simp[←g,wO,lS]
 ·refine oS.sy ?_
  simp
  refine aB ?_
  simp
  refine oS.seq ?_
  have hi:=AF s c
  refine oS.ro hT hW (fun|30=>some<| .plain ⟨.d (aC (wO c s)),true⟩|_=>none) ?_
  simp
  refine⟨hi,?_⟩
  refine oS.ret ?_
  simp
def Cu(c:UInt8)(s:aR):aR:=match lS c s with|some q=>q.1|none=>s
def Cv(c:UInt8)(s:aR):aR:=match lS c s with|some q=>q.2|none=>[]
def BW(c:UInt8)(s:aR):Bool:=(lS c s).isSome
theorem Ps(s:aR)(c:UInt8)(hl:s.length≤9223372036854775807):Ok Tryz.prog 188 [.str s,.str [c]] ⟨.tup [.d (.str (Cu c s)),.d (.str (Cv c s)),.d (.bool (BW c s))],true⟩:=by
 refine FP hT Tryz.func188 (by kernel_rfl) (c:=_) rfl Tryz.ntmps188 (by simp) Tryz.results188 (by simp) (by rfl) fun w0 X hp=>?_
 refine oS.sy ?_
 simp
 refine oS.seq ?_
 refine oS.seq ?_
 have hi:=Ls s c hl
 refine oS.ro hT hW (fun|10=>some<| .plain ⟨.d (aC (wO c s)),true⟩|_=>none) ?_
 simp
 refine⟨hi,?_⟩
 refine oS.sy ?_
 simp
 refine aB ?_
 simp
 refine⟨fun h2=>?_,fun h2=>?_⟩
 ·refine oS.seq ?_
  obtain⟨q,hq⟩:∃q,lS c s=some q:=by
   unfold wO at h2
   cases e:lS c s with
   |none=>rw[e]at h2;simp at h2
   |some q=>exact⟨q,rfl⟩
  have hx:wO c s=(q.1.length:Int):=by unfold wO;rw[hq]
  obtain⟨p1,p2,p3⟩:=Bq hq
  refine aF hT hW bI (lk [[],[],[0,1],[],[],[],[5],[4,5,6],[3,4,5,6,7],[0,1,2],[0,1,2,3,4,5,6,7,8,9],[0,1,2,3,4,5,6,7,8,9,10]]) (lk [[],[],[],[],[],[],[],[],[],[],[],[]]) (lk [[],[],[],[],[],[],[],[],[],[],[],[]]) (by kernel_rfl) (fun _=>none) (fun _=>⟨rfl,fun _ h=>h⟩) ?_
  simp[hx,p1,p2]
  refine⟨⟨⟨by omega,by omega,by omega⟩,by omega,by omega⟩,?_⟩
  refine oS.ret ?_
  simp[Cu,Cv,BW,hq]
 ·refine oS.skip ?_
  simp
  refine oS.sy ?_
  simp
  refine oS.ret ?_
  have hn:lS c s=none:=by
   unfold wO at h2
   cases e:lS c s with
   |none=>rfl
   |some q=>rw[e]at h2;simp at h2;omega
  simp[Cu,Cv,BW,hn]
theorem QF(s:aR)(c:UInt8)(hl:s.length≤9223372036854775807):Ok Tryz.prog 137 [.str s,.str [c]] ⟨.tup [.d (.str (Cu c s)),.d (.str (Cv c s)),.d (.bool (BW c s))],true⟩:=by
 refine FP hT Tryz.func137 (by kernel_rfl) (c:=_) rfl Tryz.ntmps137 (by simp) Tryz.results137 (by simp) (by rfl) fun w0 X hp=>?_
 refine oS.sy ?_
 simp
 refine oS.seq ?_
 have hi:=Ps s c hl
 refine oS.ro hT hW (fun|9=>some<| .plain ⟨.tup [.d (.str (Cu c s)),.d (.str (Cv c s)),.d (.bool (BW c s))],true⟩|_=>none) ?_
 simp[dO]
 refine⟨hi,?_⟩
 refine oS.ret ?_
 simp
end
open Go.Proofs
section
attribute[local simp] oZ.cond Nd.d_eq nd_t nd_dr nd_td ndsD
theorem uB(l:aR):l.isEmpty=decide (l=[]):=by cases l<;>simp
def Nz(l:List (Int×Int)):List DV:=l.flatMap fun p=>[aC p.1,aC p.2]
theorem Hh:Em=Nz mP:=by kernel_rfl
theorem EX:Em.length=74:=by kernel_rfl
theorem FV:∀(l:List (Int×Int)) (k:Nat),k<l.length→(Nz l)[k*2]?.getD default=aC (l.getD k (0,0)).1∧(Nz l)[k*2+1]?.getD default=aC (l.getD k (0,0)).2
 |p::l,0,_=>⟨rfl,rfl⟩
 |p::l,k+1,h=>by
  have ih:=FV l k (by simpa using h)
  have e:Nz (p::l)=aC p.1::aC p.2::Nz l:=rfl
  rw[e,show(k+1)*2=k*2+1+1 by omega]
  exact ih
theorem Hi{k:Int}(h:0≤k∧k<37):Em[k.toNat*2]?.getD default=aC (fF k):=by
 rw[Hh];exact(FV mP k.toNat (by rw[Dm];omega)).1
theorem Hj{k:Int}(h:0≤k∧k<37):Em[k.toNat*2+1]?.getD default=aC (fH k):=by
 rw[Hh];exact(FV mP k.toNat (by rw[Dm];omega)).2
theorem NA(c:UInt8)(s:aR):(Cu c s).length≤s.length:=by
 unfold Cu
 cases h:lS c s with
 |none=>simp
 |some q=>have:=Bq h;simp;omega
theorem NB(c:UInt8)(s:aR):(Cv c s).length≤s.length:=by
 unfold Cv
 cases h:lS c s with
 |none=>simp
 |some q=>have:=Bq h;simp;omega
theorem yX(t:aR):xP t=(BW 46 t&&cR (Cu 46 t) true&&cR (Cv 46 t) true):=by
 unfold xP BW Cu Cv
 cases lS 46 t with
 |none=>rfl
 |some q=>rfl
theorem Lt(x:Nd)(hk:0≤x.kind∧x.kind<37)(hl:x.text.length≤9223372036854775807):Ok Tryz.prog 165 [x.d] ⟨.d (.bool (kI x)),true⟩:=by
 refine Ok.ret Tryz.func165 (by kernel_rfl) (c:=_) rfl Tryz.ntmps165 (by simp) Tryz.results165 (by intro _ h;cases h) fun w0 X hp=>?_
 refine oS.sy ?_
 simp
 refine oS.seq ?_
 refine oS.seq ?_
 have hg1:=Hi hk
 have hg2:=Hj hk
 have hg3:=EX
 refine aF hT hW bI (lk [[],[0],[],[2],[2,3],[2,3,4],[2,3,4,5],[0,1,2,3,4,5,6],[0,1,2,3,4,5,6,7],[0,1,2,3,4,5,6,7,8],[0,1,2,3,4,5,6,7,8,9],[0,1,2,3,4,5,6,7,8],[0,1,2,3,4,5,6,7,8,11],[0,1,2,3,4,5,6,7,8,11,12],[0,1,2,3,4,5,6,7,8,11,12,13],[0,1,2,3,4,5,6,7,8,11,12,13,14],[0,1,2,3,4,5,6,7,8,9,10,11,12,13,14,15],[0,1,2,3,4,5,6,7,8,9,10,11,12,13,14,15,16]]) (lk [[],[],[],[],[],[],[],[],[],[],[],[],[],[],[],[],[],[]]) (lk [[],[],[],[],[],[],[],[],[],[],[],[],[],[],[],[],[],[]]) (by kernel_rfl) (fun _=>none) (fun _=>⟨rfl,fun _ h=>h⟩) ?_
 simp[hg1,hg2]
 refine⟨⟨⟨⟨hk,by omega⟩,fun _=>hk⟩,fun _=>by omega⟩,?_⟩
 refine aB ?_
 simp
 refine⟨fun g=>?_,fun g1 g2=>?_⟩
 ·refine oS.sy ?_
  simp
  refine oS.ret ?_
  simp
  unfold kI lE
  rw[Bool.eq_false_iff]
  intro h
  simp only[Bool.and_eq_true,decide_eq_true_eq]at h
  omega
 ·refine oS.skip ?_
  simp
  refine oS.seq ?_
  refine oS.sy ?_
  simp
  refine oS.block ?_
  refine aO (ι:=BC) (fun⟨b⟩=>aY [(1,.bx 1 0),(25,.d (aC x.kind)),(26,.d (.bool b))]) (fun⟨b⟩=>aK [(1,.box false [.d (aC x.kind),.d (.str x.text),.d (aC x.n),.d (ndsD x.kids)])]) (fun⟨b⟩=>b=true↔(x.kind=9∨x.kind=19∨x.kind=20∨x.kind=33)) ?_ fun⟨b⟩ hc8=>?_
  ·refine oS.sy ?_
   simp
   refine aB ?_
   simp
   refine⟨fun h4=>?_,fun h4=>?_⟩
   ·refine oS.skip ?_
    simp
    refine Pg.mk ⟨decide (x.kind=9)⟩ (aA [1,25,26] [(1,1)] (by decide) (by decide) (by simp[hp]) (by simp) (by simp)) ?_
    simp[h4]
   ·refine oS.sy ?_
    simp
    refine aB ?_
    simp
    refine⟨fun h5=>?_,fun h5=>?_⟩
    ·refine oS.skip ?_
     simp
     refine Pg.mk ⟨decide (x.kind=19)⟩ (aA [1,25,26] [(1,1)] (by decide) (by decide) (by simp[hp]) (by simp) (by simp)) ?_
     simp[h5]
    ·refine oS.sy ?_
     simp
     refine aB ?_
     simp
     refine⟨fun h6=>?_,fun h6=>?_⟩
     ·refine oS.skip ?_
      simp
      refine Pg.mk ⟨decide (x.kind=20)⟩ (aA [1,25,26] [(1,1)] (by decide) (by decide) (by simp[hp]) (by simp) (by simp)) ?_
      simp[h6]
     ·refine aL ?_
      simp
      refine Pg.mk ⟨decide (x.kind=33)⟩ (aA [1,25,26] [(1,1)] (by decide) (by decide) (by simp[hp]) (by simp) (by simp)) ?_
      simp only[decide_eq_true_eq];omega
  ·refine aB ?_
   simp
   refine⟨fun h8=>?_,fun h8=>?_⟩
   ·have q8:=hc8.1 h8
    refine oS.seq ?_
    have hw:=AE x.text false hl
    refine oS.ro hT hW (fun|33=>some<| .plain ⟨.d (.bool (cR x.text false)),true⟩|_=>none) ?_
    simp
    refine⟨hw,?_⟩
    refine oS.ret ?_
    simp
    unfold kI lE kH
    simp only[g1,g2,decide_true,Bool.true_and]
    repeat(first|rw[if_pos (by omega)]|rw[if_neg (by omega)])
    try rw[yX]
    try simp
    try exact uB _
   ·have q8:¬(x.kind=9∨x.kind=19∨x.kind=20∨x.kind=33):=fun q=>by simp[hc8.2 q]at h8
    refine oS.sy ?_
    simp
    refine aB ?_
    simp
    refine⟨fun h9=>?_,fun h9=>?_⟩
    ·refine oS.seq ?_
     have hc:=QF x.text 46 hl
     refine oS.ro hT hW (fun|39=>some<| .plain ⟨.tup [.d (.str (Cu 46 x.text)),.d (.str (Cv 46 x.text)),.d (.bool (BW 46 x.text))],true⟩|_=>none) ?_
     simp[dO]
     refine⟨hc,?_⟩
     refine oS.seq ?_
     have hw1:=AE (Cu 46 x.text) true (by have:=NA 46 x.text;omega)
     have hw2:=AE (Cv 46 x.text) true (by have:=NB 46 x.text;omega)
     refine oS.ro hT hW (fun|46=>some<| .plain ⟨.d (.bool (cR (Cu 46 x.text) true)),true⟩|50=>some<| .plain ⟨.d (.bool (cR (Cv 46 x.text) true)),true⟩|_=>none) ?_
     simp
     refine⟨⟨fun _=>hw1,fun _ _=>hw2⟩,?_⟩
     refine oS.ret ?_
     simp
     unfold kI lE kH
     simp only[g1,g2,decide_true,Bool.true_and]
     repeat(first|rw[if_pos (by omega)]|rw[if_neg (by omega)])
     try rw[yX]
     try simp
     try exact uB _
    ·refine aO (ι:=BC) (fun⟨b⟩=>aY [(1,.bx 1 0),(25,.d (aC x.kind)),(52,.d (.bool b))]) (fun⟨b⟩=>aK [(1,.box false [.d (aC x.kind),.d (.str x.text),.d (aC x.n),.d (ndsD x.kids)])]) (fun⟨b⟩=>b=true↔(x.kind=8∨x.kind=10∨x.kind=11∨x.kind=12∨x.kind=21∨x.kind=24∨x.kind=25∨x.kind=26∨x.kind=27∨x.kind=28∨x.kind=29∨x.kind=30∨x.kind=31∨x.kind=32∨x.kind=36)) ?_ fun⟨b⟩ hc27=>?_
     ·refine oS.sy ?_
      simp
      refine aB ?_
      simp
      refine⟨fun h12=>?_,fun h12=>?_⟩
      ·refine oS.skip ?_
       simp
       refine Pg.mk ⟨decide (x.kind=8)⟩ (aA [1,25,52] [(1,1)] (by decide) (by decide) (by simp[hp]) (by simp) (by simp)) ?_
       simp[h12]
      ·refine oS.sy ?_
       simp
       refine aB ?_
       simp
       refine⟨fun h13=>?_,fun h13=>?_⟩
       ·refine oS.skip ?_
        simp
        refine Pg.mk ⟨decide (x.kind=10)⟩ (aA [1,25,52] [(1,1)] (by decide) (by decide) (by simp[hp]) (by simp) (by simp)) ?_
        simp[h13]
       ·refine oS.sy ?_
        simp
        refine aB ?_
        simp
        refine⟨fun h14=>?_,fun h14=>?_⟩
        ·refine oS.skip ?_
         simp
         refine Pg.mk ⟨decide (x.kind=11)⟩ (aA [1,25,52] [(1,1)] (by decide) (by decide) (by simp[hp]) (by simp) (by simp)) ?_
         simp[h14]
        ·refine oS.sy ?_
         simp
         refine aB ?_
         simp
         refine⟨fun h15=>?_,fun h15=>?_⟩
         ·refine oS.skip ?_
          simp
          refine Pg.mk ⟨decide (x.kind=12)⟩ (aA [1,25,52] [(1,1)] (by decide) (by decide) (by simp[hp]) (by simp) (by simp)) ?_
          simp[h15]
         ·refine oS.sy ?_
          simp
          refine aB ?_
          simp
          refine⟨fun h16=>?_,fun h16=>?_⟩
          ·refine oS.skip ?_
           simp
           refine Pg.mk ⟨decide (x.kind=21)⟩ (aA [1,25,52] [(1,1)] (by decide) (by decide) (by simp[hp]) (by simp) (by simp)) ?_
           simp[h16]
          ·refine oS.sy ?_
           simp
           refine aB ?_
           simp
           refine⟨fun h17=>?_,fun h17=>?_⟩
           ·refine oS.skip ?_
            simp
            refine Pg.mk ⟨decide (x.kind=24)⟩ (aA [1,25,52] [(1,1)] (by decide) (by decide) (by simp[hp]) (by simp) (by simp)) ?_
            simp[h17]
           ·refine oS.sy ?_
            simp
            refine aB ?_
            simp
            refine⟨fun h18=>?_,fun h18=>?_⟩
            ·refine oS.skip ?_
             simp
             refine Pg.mk ⟨decide (x.kind=25)⟩ (aA [1,25,52] [(1,1)] (by decide) (by decide) (by simp[hp]) (by simp) (by simp)) ?_
             simp[h18]
            ·refine oS.sy ?_
             simp
             refine aB ?_
             simp
             refine⟨fun h19=>?_,fun h19=>?_⟩
             ·refine oS.skip ?_
              simp
              refine Pg.mk ⟨decide (x.kind=26)⟩ (aA [1,25,52] [(1,1)] (by decide) (by decide) (by simp[hp]) (by simp) (by simp)) ?_
              simp[h19]
             ·refine oS.sy ?_
              simp
              refine aB ?_
              simp
              refine⟨fun h20=>?_,fun h20=>?_⟩
              ·refine oS.skip ?_
               simp
               refine Pg.mk ⟨decide (x.kind=27)⟩ (aA [1,25,52] [(1,1)] (by decide) (by decide) (by simp[hp]) (by simp) (by simp)) ?_
               simp[h20]
              ·refine oS.sy ?_
               simp
               refine aB ?_
               simp
               refine⟨fun h21=>?_,fun h21=>?_⟩
               ·refine oS.skip ?_
                simp
                refine Pg.mk ⟨decide (x.kind=28)⟩ (aA [1,25,52] [(1,1)] (by decide) (by decide) (by simp[hp]) (by simp) (by simp)) ?_
                simp[h21]
               ·refine oS.sy ?_
                simp
                refine aB ?_
                simp
                refine⟨fun h22=>?_,fun h22=>?_⟩
                ·refine oS.skip ?_
                 simp
                 refine Pg.mk ⟨decide (x.kind=29)⟩ (aA [1,25,52] [(1,1)] (by decide) (by decide) (by simp[hp]) (by simp) (by simp)) ?_
                 simp[h22]
                ·refine oS.sy ?_
                 simp
                 refine aB ?_
                 simp
                 refine⟨fun h23=>?_,fun h23=>?_⟩
                 ·refine oS.skip ?_
                  simp
                  refine Pg.mk ⟨decide (x.kind=30)⟩ (aA [1,25,52] [(1,1)] (by decide) (by decide) (by simp[hp]) (by simp) (by simp)) ?_
                  simp[h23]
                 ·refine oS.sy ?_
                  simp
                  refine aB ?_
                  simp
                  refine⟨fun h24=>?_,fun h24=>?_⟩
                  ·refine oS.skip ?_
                   simp
                   refine Pg.mk ⟨decide (x.kind=31)⟩ (aA [1,25,52] [(1,1)] (by decide) (by decide) (by simp[hp]) (by simp) (by simp)) ?_
                   simp[h24]
                  ·refine oS.sy ?_
                   simp
                   refine aB ?_
                   simp
                   refine⟨fun h25=>?_,fun h25=>?_⟩
                   ·refine oS.skip ?_
                    simp
                    refine Pg.mk ⟨decide (x.kind=32)⟩ (aA [1,25,52] [(1,1)] (by decide) (by decide) (by simp[hp]) (by simp) (by simp)) ?_
                    simp[h25]
                   ·refine aL ?_
                    simp
                    refine Pg.mk ⟨decide (x.kind=36)⟩ (aA [1,25,52] [(1,1)] (by decide) (by decide) (by simp[hp]) (by simp) (by simp)) ?_
                    simp only[decide_eq_true_eq];omega
     ·refine aB ?_
      simp
      refine⟨fun h27=>?_,fun h27=>?_⟩
      ·have q27:=hc27.1 h27
       refine oS.sy ?_
       simp
       refine oS.ret ?_
       simp
       unfold kI lE kH
       simp only[g1,g2,decide_true,Bool.true_and]
       repeat(first|rw[if_pos (by omega)]|rw[if_neg (by omega)])
       try rw[yX]
       try simp
       try exact uB _
      ·have q27:¬(x.kind=8∨x.kind=10∨x.kind=11∨x.kind=12∨x.kind=21∨x.kind=24∨x.kind=25∨x.kind=26∨x.kind=27∨x.kind=28∨x.kind=29∨x.kind=30∨x.kind=31∨x.kind=32∨x.kind=36):=fun q=>by simp[hc27.2 q]at h27
       refine oS.skip ?_
       simp
       refine oS.seq ?_
       have hw:=AE x.text true hl
       refine oS.ro hT hW (fun|73=>some<| .plain ⟨.d (.bool (cR x.text true)),true⟩|_=>none) ?_
       simp
       refine⟨hw,?_⟩
       refine oS.ret ?_
       simp
       unfold kI lE kH
       simp only[g1,g2,decide_true,Bool.true_and]
       repeat(first|rw[if_pos (by omega)]|rw[if_neg (by omega)])
       try rw[yX]
       try simp
       try exact uB _
end
open Go.Proofs
section
attribute[local simp] oZ.cond Nd.d_eq nd_t nd_dr nd_td ndsD
theorem Lu(x:Nd)(hx:Ok Tryz.prog 121 [x.d] ⟨.d (.bool (aI x)),true⟩):Ok Tryz.prog 166 [x.d] ⟨.d (.bool (!aI x)),true⟩:=by
 refine Ok.ret Tryz.func166 (by kernel_rfl) (c:=_) rfl Tryz.ntmps166 (by simp) Tryz.results166 (by intro _ h;cases h) fun w0 X hp=>?_
 refine oS.sy ?_
 simp
 refine bY hT hW (fun|4=>some<| .plain ⟨.d (.bool (aI x)),true⟩|_=>none) ?_
 simp
 refine⟨by simpa using hx,?_⟩
 refine oS.ret ?_
 simp
theorem Ja(x:Nd)(hw:weighN x≤1000000000)(ih:∀y∈x.kids,weighN y≤1000000000→Ok Tryz.prog 121 [y.d] ⟨.d (.bool (aI y)),true⟩):Ok Tryz.prog 121 [x.d] ⟨.d (.bool (aI x)),true⟩:=by
 refine Ok.ret Tryz.func121 (by kernel_rfl) (c:=_) rfl Tryz.ntmps121 (by simp) Tryz.results121 (by intro _ h;cases h) fun w0 X hp=>?_
 refine oS.sy ?_
 simp
 refine oS.seq ?_
 have hs:=Lk x
 have hwo:=Lt x
 have hl:x.text.length≤9223372036854775807:=by have:=weighN_eq x;omega
 have ha:=Hd x.kids (fun y=> !aI y) 166 [] (fun y hy=>Lu y (ih y hy (by have:=weigh_mem hy;have:=weighN_eq x;omega)))
 refine oS.ro hT hW (fun|13=>some<| .plain ⟨.d (.bool (fR x)),true⟩|17=>some<| .plain ⟨.d (.bool (kI x)),true⟩|22=>some<| .plain ⟨.d (.bool (x.kids.any fun y=> !aI y)),true⟩|_=>none) ?_
 simp
 refine⟨⟨⟨fun _ _=>by simpa using hs,fun h0 h1 _=>by simpa using hwo ⟨h0,h1⟩ hl⟩,fun _ _ _ _=>ha⟩,?_⟩
 refine oS.ret ?_
 simp
 rw[rightN_eq,List.all_eq_not_any_not]
theorem NC(x:Nd):weighN x≤1000000000→Ok Tryz.prog 121 [x.d] ⟨.d (.bool (aI x)),true⟩:=
 qX (p:=fun x=>weighN x≤1000000000→Ok Tryz.prog 121 [x.d] ⟨.d (.bool (aI x)),true⟩) (fun _ _ _ _ ih hw=>Ja _ hw (fun y hy=>ih y hy)) x
theorem DC(x:Nd)(hw:weighN x≤1000000000):Ok Tryz.prog 59 [x.d] ⟨.d (.bool (validB x)),true⟩:=by
 refine Ok.ret Tryz.func59 (by kernel_rfl) (c:=_) rfl Tryz.ntmps59 (by simp) Tryz.results59 (by intro _ h;cases h) fun w0 X hp=>?_
 refine oS.sy ?_
 simp
 refine oS.seq ?_
 have h1:=Nk x hw
 have h2:=NC x hw
 have h3:=JV x
 have h4:=@Bj x
 refine oS.ro hT hW (fun|13=>some<| .plain ⟨.d (aC (depthN x)),true⟩|18=>some<| .plain ⟨.d (.bool (aI x)),true⟩|22=>some<| .plain ⟨.d (.str (textT x)),true⟩|_=>none) ?_
 simp
 refine⟨⟨⟨fun _ _=>by simpa using h1,fun _ _ _=>by simpa using h2⟩,fun a b _ d=>by simpa using h3 (h4 d a b) hw⟩,?_⟩
 refine oS.ret ?_
 simp[validB]
 rw[show decide ((depthN x:Int)≤24)=decide (depthN x≤24) from by rw[decide_eq_decide];omega,show decide (((textT x).length:Int)≤1024)=decide ((textT x).length≤1024) from by rw[decide_eq_decide];omega]
theorem Lv{x:Nd}(h:validB x=true):Le x:=by
 simp only[validB,Bool.and_eq_true,decide_eq_true_eq]at h
 exact Bj h.1.2 h.1.1.1.1 h.1.1.1.2
theorem Hk(x:Nd)(hw:weighN x≤1000000000):Ok Tryz.prog 18 [x.d] ⟨.d (.str (printS x)),true⟩:=by
 refine Ok.ret Tryz.func18 (by kernel_rfl) (c:=_) rfl Tryz.ntmps18 (by simp) Tryz.results18 (by intro _ h;cases h) fun w0 X hp=>?_
 refine oS.sy ?_
 simp
 refine oS.seq ?_
 refine oS.seq ?_
 have v1:=DC x hw
 refine oS.ro hT hW (fun|4=>some<| .plain ⟨.d (.bool (validB x)),true⟩|_=>none) ?_
 simp
 refine⟨by simpa using v1,?_⟩
 refine aB ?_
 simp
 refine⟨fun h1=>?_,fun h1=>?_⟩
 ·refine oS.sy ?_
  simp
  refine oS.ret ?_
  simp[printS,h1]
 ·refine oS.skip ?_
  simp
  refine oS.seq ?_
  have hv:=Lv h1
  have h4:=JV x hv hw
  refine oS.ro hT hW (fun|7=>some<| .plain ⟨.d (.str (textT x)),true⟩|_=>none) ?_
  simp
  refine⟨by simpa using h4,?_⟩
  refine oS.ret ?_
  simp[printS,h1]
theorem Pt(x:Nd)(hw:weighN x≤1000000000):Ok Tryz.prog 61 [x.d] ⟨.tup [.d (aC (headK x)),.d (.str (headT x))],true⟩:=by
 refine Dl Tryz.func61 (by kernel_rfl) (c:=_) rfl Tryz.ntmps61 (by simp) Tryz.results61 rfl fun w0 X hp=>?_
 refine oS.sy ?_
 simp
 refine oS.seq ?_
 refine oS.seq ?_
 have v1:=DC x hw
 refine oS.ro hT hW (fun|5=>some<| .plain ⟨.d (.bool (validB x)),true⟩|_=>none) ?_
 simp
 refine⟨by simpa using v1,?_⟩
 refine aB ?_
 simp
 refine⟨fun h1=>?_,fun h1=>?_⟩
 ·refine oS.sy ?_
  simp
  refine oS.ret ?_
  simp[headK,headT,h1]
 ·refine oS.skip ?_
  simp
  refine oS.seq ?_
  refine aF hT hW bI (lk [[],[0],[],[2],[0,1],[0,1,2,3,4]]) (lk [[],[],[],[],[],[]]) (lk [[],[],[],[],[],[]]) (by kernel_rfl) (fun _=>none) (fun _=>⟨rfl,fun _ h=>h⟩) ?_
  simp
  refine oS.ret ?_
  simp[headK,headT,h1]
end
end Go.Eng
