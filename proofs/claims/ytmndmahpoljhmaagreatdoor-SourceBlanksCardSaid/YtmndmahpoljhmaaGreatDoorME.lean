/-
  Texts of the proofs of this seat, part 5. No condition.
-/
import Derived.Test.YtmndmahpoljhmaaGreatDoorMD
import Derived.Test.YtmndmahpoljhmaaGreatDoorProg
import Derived.KernelRfl
import Derived.Shelf.Strconv.Itoa3
import Derived.Shelf.Strings.Search1
set_option linter.unusedVariables false
set_option linter.unusedSimpArgs false
namespace Go.Eng
def EF:List (Nat×lF):=
 [(2,⟨.int .i64,1,8,[.int .i64 0],[]⟩),
  (3,⟨.int .i64,1,8,[.int .i64 0],[]⟩),
  (4,⟨.bool,1,1,[.bool false],[]⟩),
  (5,⟨.int .u8,1,1,[.int .u8 0],[]⟩),
  (6,⟨.int .u8,1,1,[.int .u8 0],[]⟩),
  (9,⟨.str,1,16,[.string .empty],[]⟩),
  (10,⟨.str,1,16,[.string .empty],[]⟩),
  (11,⟨.str,1,16,[.string .empty],[]⟩),
  (12,⟨.int .u64,1,8,[.int .u64 0],[]⟩),
  (21,⟨.int .i32,1,4,[.int .i32 0],[]⟩),
  (22,⟨.slice 3,1,24,[.slice none 0 0],[]⟩),
  (23,⟨.other,1,8,[.nilFunc],[]⟩),
  (24,⟨.other,1,8,[.nilFunc],[]⟩),
  (25,⟨.slice 27,1,24,[.slice none 0 0],[]⟩),
  (26,⟨.struct [(0,3),(1,9),(2,3),(3,25)],4,56,[.int .i64 0,.string .empty,.int .i64 0,.slice none 0 0],[]⟩),
  (27,⟨.struct [(0,3),(1,9),(2,3),(3,25)],4,56,[.int .i64 0,.string .empty,.int .i64 0,.slice none 0 0],[]⟩),
  (28,⟨.other,1,8,[.nilFunc],[]⟩),
  (29,⟨.other,1,8,[.nilFunc],[]⟩),
  (30,⟨.slice 9,1,24,[.slice none 0 0],[]⟩),
  (31,⟨.int .i64,1,8,[.int .i64 0],[]⟩),
  (33,⟨.other,1,8,[.nilFunc],[]⟩),
  (34,⟨.other,1,8,[.nilFunc],[]⟩),
  (35,⟨.other,1,8,[.nilFunc],[]⟩),
  (36,⟨.other,1,8,[.nilFunc],[]⟩),
  (37,⟨.other,1,8,[.nilFunc],[]⟩),
  (38,⟨.other,1,8,[.nilFunc],[]⟩),
  (39,⟨.other,1,8,[.nilFunc],[]⟩),
  (40,⟨.other,1,8,[.nilFunc],[]⟩),
  (41,⟨.other,1,8,[.nilFunc],[]⟩),
  (42,⟨.other,1,8,[.nilFunc],[]⟩),
  (43,⟨.other,1,8,[.nilFunc],[]⟩),
  (44,⟨.slice 48,1,24,[.slice none 0 0],[]⟩),
  (45,⟨.other,1,8,[.nilFunc],[]⟩),
  (47,⟨.other,1,8,[.nilFunc],[]⟩),
  (48,⟨.slice 54,1,24,[.slice none 0 0],[]⟩),
  (49,⟨.other,1,8,[.nilFunc],[]⟩),
  (50,⟨.other,1,8,[.nilFunc],[]⟩),
  (51,⟨.other,1,8,[.nilFunc],[]⟩),
  (52,⟨.other,1,8,[.nilFunc],[]⟩),
  (53,⟨.struct [(0,9),(1,9)],2,32,[.string .empty,.string .empty],[.str,.str]⟩),
  (54,⟨.struct [(0,9),(1,9)],2,32,[.string .empty,.string .empty],[.str,.str]⟩),
  (56,⟨.other,1,8,[.nilFunc],[]⟩),
  (58,⟨.other,1,8,[.nilFunc],[]⟩),
  (59,⟨.other,1,8,[.nilFunc],[]⟩),
  (61,⟨.other,1,8,[.nilFunc],[]⟩),
  (62,⟨.other,1,8,[.nilFunc],[]⟩),
  (63,⟨.other,1,8,[.nilFunc],[]⟩),
  (64,⟨.arr 16 5,16,16,[.int .u8 0,.int .u8 0,.int .u8 0,.int .u8 0,.int .u8 0,.int .u8 0,.int .u8 0,.int .u8 0,.int .u8 0,.int .u8 0,.int .u8 0,.int .u8 0,.int .u8 0,.int .u8 0,.int .u8 0,.int .u8 0],[]⟩),
  (65,⟨.arr 16 5,16,16,[.int .u8 0,.int .u8 0,.int .u8 0,.int .u8 0,.int .u8 0,.int .u8 0,.int .u8 0,.int .u8 0,.int .u8 0,.int .u8 0,.int .u8 0,.int .u8 0,.int .u8 0,.int .u8 0,.int .u8 0,.int .u8 0],[]⟩),
  (66,⟨.other,1,8,[.nilFunc],[]⟩),
  (67,⟨.other,1,8,[.nilFunc],[]⟩),
  (68,⟨.other,1,8,[.nilFunc],[]⟩),
  (69,⟨.other,1,8,[.nilFunc],[]⟩),
  (70,⟨.slice 74,1,24,[.slice none 0 0],[]⟩),
  (72,⟨.other,1,8,[.nilFunc],[]⟩),
  (73,⟨.struct [(0,3),(1,3)],2,16,[.int .i64 0,.int .i64 0],[.int .i64,.int .i64]⟩),
  (74,⟨.struct [(0,3),(1,3)],2,16,[.int .i64 0,.int .i64 0],[.int .i64,.int .i64]⟩),
  (75,⟨.slice 5,1,24,[.slice none 0 0],[]⟩),
  (76,⟨.other,1,8,[.nilFunc],[]⟩),
  (77,⟨.ptr 79,1,8,[.pointer none],[]⟩),
  (78,⟨.struct [(0,22),(1,3)],2,32,[.slice none 0 0,.int .i64 0],[]⟩),
  (79,⟨.struct [(0,22),(1,3)],2,32,[.slice none 0 0,.int .i64 0],[]⟩),
  (80,⟨.other,1,8,[.nilFunc],[]⟩),
  (81,⟨.other,1,8,[.nilFunc],[]⟩),
  (82,⟨.other,1,8,[.nilFunc],[]⟩),
  (83,⟨.slice 91,1,24,[.slice none 0 0],[]⟩),
  (85,⟨.other,1,8,[.nilFunc],[]⟩),
  (86,⟨.ptr 88,1,8,[.pointer none],[]⟩),
  (87,⟨.struct [(0,83),(1,31)],2,32,[.slice none 0 0,.int .i64 0],[]⟩),
  (88,⟨.struct [(0,83),(1,31)],2,32,[.slice none 0 0,.int .i64 0],[]⟩),
  (89,⟨.other,1,8,[.nilFunc],[]⟩),
  (90,⟨.struct [(0,9),(1,3)],2,24,[.string .empty,.int .i64 0],[.str,.int .i64]⟩),
  (91,⟨.struct [(0,9),(1,3)],2,24,[.string .empty,.int .i64 0],[.str,.int .i64]⟩),
  (92,⟨.other,1,8,[.nilFunc],[]⟩),
  (93,⟨.other,1,8,[.nilFunc],[]⟩),
  (95,⟨.other,1,8,[.nilFunc],[]⟩),
  (96,⟨.other,1,8,[.nilFunc],[]⟩),
  (97,⟨.other,1,8,[.nilFunc],[]⟩),
  (98,⟨.other,1,8,[.nilFunc],[]⟩),
  (99,⟨.other,1,8,[.nilFunc],[]⟩),
  (100,⟨.arr 26 9,26,416,[.string .empty,.string .empty,.string .empty,.string .empty,.string .empty,.string .empty,.string .empty,.string .empty,.string .empty,.string .empty,.string .empty,.string .empty,.string .empty,.string .empty,.string .empty,.string .empty,.string .empty,.string .empty,.string .empty,.string .empty,.string .empty,.string .empty,.string .empty,.string .empty,.string .empty,.string .empty],[]⟩),
  (101,⟨.other,1,8,[.nilFunc],[]⟩),
  (102,⟨.other,1,8,[.nilFunc],[]⟩),
  (103,⟨.other,1,8,[.nilFunc],[]⟩),
  (104,⟨.map 9 3,1,8,[.map none],[]⟩),
  (105,⟨.struct [(0,25),(1,104)],2,32,[.slice none 0 0,.map none],[]⟩),
  (106,⟨.struct [(0,25),(1,104)],2,32,[.slice none 0 0,.map none],[]⟩),
  (108,⟨.other,1,8,[.nilFunc],[]⟩),
  (109,⟨.other,1,8,[.nilFunc],[]⟩),
  (110,⟨.other,1,8,[.nilFunc],[]⟩),
  (111,⟨.other,1,8,[.nilFunc],[]⟩),
  (112,⟨.other,1,8,[.nilFunc],[]⟩),
  (113,⟨.other,1,8,[.nilFunc],[]⟩),
  (114,⟨.other,1,8,[.nilFunc],[]⟩),
  (115,⟨.other,1,8,[.nilFunc],[]⟩),
  (116,⟨.other,1,8,[.nilFunc],[]⟩),
  (117,⟨.other,1,8,[.nilFunc],[]⟩),
  (118,⟨.other,1,8,[.nilFunc],[]⟩),
  (119,⟨.other,1,8,[.nilFunc],[]⟩),
  (120,⟨.map 9 4,1,8,[.map none],[]⟩),
  (121,⟨.other,1,8,[.nilFunc],[]⟩),
  (122,⟨.other,1,8,[.nilFunc],[]⟩),
  (123,⟨.other,1,8,[.nilFunc],[]⟩),
  (124,⟨.struct [(0,3),(1,9),(2,9)],3,40,[.int .i64 0,.string .empty,.string .empty],[.int .i64,.str,.str]⟩),
  (125,⟨.struct [(0,3),(1,9),(2,9)],3,40,[.int .i64 0,.string .empty,.string .empty],[.int .i64,.str,.str]⟩),
  (126,⟨.other,1,8,[.nilFunc],[]⟩),
  (127,⟨.other,1,8,[.nilFunc],[]⟩),
  (128,⟨.other,1,8,[.nilFunc],[]⟩),
  (129,⟨.other,1,8,[.nilFunc],[]⟩),
  (130,⟨.other,1,8,[.nilFunc],[]⟩),
  (131,⟨.slice 134,1,24,[.slice none 0 0],[]⟩),
  (132,⟨.other,1,8,[.nilFunc],[]⟩),
  (133,⟨.struct [(0,3),(1,3),(2,9),(3,9)],4,48,[.int .i64 0,.int .i64 0,.string .empty,.string .empty],[.int .i64,.int .i64,.str,.str]⟩),
  (134,⟨.struct [(0,3),(1,3),(2,9),(3,9)],4,48,[.int .i64 0,.int .i64 0,.string .empty,.string .empty],[.int .i64,.int .i64,.str,.str]⟩),
  (136,⟨.map 3 4,1,8,[.map none],[]⟩),
  (137,⟨.other,1,8,[.nilFunc],[]⟩),
  (138,⟨.other,1,8,[.nilFunc],[]⟩),
  (139,⟨.other,1,8,[.nilFunc],[]⟩),
  (140,⟨.other,1,8,[.nilFunc],[]⟩),
  (141,⟨.other,1,8,[.nilFunc],[]⟩),
  (142,⟨.int .u32,1,4,[.int .u32 0],[]⟩),
  (143,⟨.arr 8 142,8,32,[.int .u32 0,.int .u32 0,.int .u32 0,.int .u32 0,.int .u32 0,.int .u32 0,.int .u32 0,.int .u32 0],[]⟩),
  (144,⟨.arr 64 5,64,64,[.int .u8 0,.int .u8 0,.int .u8 0,.int .u8 0,.int .u8 0,.int .u8 0,.int .u8 0,.int .u8 0,.int .u8 0,.int .u8 0,.int .u8 0,.int .u8 0,.int .u8 0,.int .u8 0,.int .u8 0,.int .u8 0,.int .u8 0,.int .u8 0,.int .u8 0,.int .u8 0,.int .u8 0,.int .u8 0,.int .u8 0,.int .u8 0,.int .u8 0,.int .u8 0,.int .u8 0,.int .u8 0,.int .u8 0,.int .u8 0,.int .u8 0,.int .u8 0,.int .u8 0,.int .u8 0,.int .u8 0,.int .u8 0,.int .u8 0,.int .u8 0,.int .u8 0,.int .u8 0,.int .u8 0,.int .u8 0,.int .u8 0,.int .u8 0,.int .u8 0,.int .u8 0,.int .u8 0,.int .u8 0,.int .u8 0,.int .u8 0,.int .u8 0,.int .u8 0,.int .u8 0,.int .u8 0,.int .u8 0,.int .u8 0,.int .u8 0,.int .u8 0,.int .u8 0,.int .u8 0,.int .u8 0,.int .u8 0,.int .u8 0,.int .u8 0],[]⟩),
  (145,⟨.int .u64,1,8,[.int .u64 0],[]⟩),
  (146,⟨.struct [(0,143),(8,144),(72,145)],73,104,[.int .u32 0,.int .u32 0,.int .u32 0,.int .u32 0,.int .u32 0,.int .u32 0,.int .u32 0,.int .u32 0,.int .u8 0,.int .u8 0,.int .u8 0,.int .u8 0,.int .u8 0,.int .u8 0,.int .u8 0,.int .u8 0,.int .u8 0,.int .u8 0,.int .u8 0,.int .u8 0,.int .u8 0,.int .u8 0,.int .u8 0,.int .u8 0,.int .u8 0,.int .u8 0,.int .u8 0,.int .u8 0,.int .u8 0,.int .u8 0,.int .u8 0,.int .u8 0,.int .u8 0,.int .u8 0,.int .u8 0,.int .u8 0,.int .u8 0,.int .u8 0,.int .u8 0,.int .u8 0,.int .u8 0,.int .u8 0,.int .u8 0,.int .u8 0,.int .u8 0,.int .u8 0,.int .u8 0,.int .u8 0,.int .u8 0,.int .u8 0,.int .u8 0,.int .u8 0,.int .u8 0,.int .u8 0,.int .u8 0,.int .u8 0,.int .u8 0,.int .u8 0,.int .u8 0,.int .u8 0,.int .u8 0,.int .u8 0,.int .u8 0,.int .u8 0,.int .u8 0,.int .u8 0,.int .u8 0,.int .u8 0,.int .u8 0,.int .u8 0,.int .u8 0,.int .u8 0,.int .u64 0],[]⟩),
  (147,⟨.struct [(0,143),(8,144),(72,145)],73,104,[.int .u32 0,.int .u32 0,.int .u32 0,.int .u32 0,.int .u32 0,.int .u32 0,.int .u32 0,.int .u32 0,.int .u8 0,.int .u8 0,.int .u8 0,.int .u8 0,.int .u8 0,.int .u8 0,.int .u8 0,.int .u8 0,.int .u8 0,.int .u8 0,.int .u8 0,.int .u8 0,.int .u8 0,.int .u8 0,.int .u8 0,.int .u8 0,.int .u8 0,.int .u8 0,.int .u8 0,.int .u8 0,.int .u8 0,.int .u8 0,.int .u8 0,.int .u8 0,.int .u8 0,.int .u8 0,.int .u8 0,.int .u8 0,.int .u8 0,.int .u8 0,.int .u8 0,.int .u8 0,.int .u8 0,.int .u8 0,.int .u8 0,.int .u8 0,.int .u8 0,.int .u8 0,.int .u8 0,.int .u8 0,.int .u8 0,.int .u8 0,.int .u8 0,.int .u8 0,.int .u8 0,.int .u8 0,.int .u8 0,.int .u8 0,.int .u8 0,.int .u8 0,.int .u8 0,.int .u8 0,.int .u8 0,.int .u8 0,.int .u8 0,.int .u8 0,.int .u8 0,.int .u8 0,.int .u8 0,.int .u8 0,.int .u8 0,.int .u8 0,.int .u8 0,.int .u8 0,.int .u64 0],[]⟩),
  (148,⟨.other,1,8,[.nilFunc],[]⟩),
  (149,⟨.other,1,8,[.nilFunc],[]⟩),
  (150,⟨.other,1,8,[.nilFunc],[]⟩),
  (151,⟨.arr 32 5,32,32,[.int .u8 0,.int .u8 0,.int .u8 0,.int .u8 0,.int .u8 0,.int .u8 0,.int .u8 0,.int .u8 0,.int .u8 0,.int .u8 0,.int .u8 0,.int .u8 0,.int .u8 0,.int .u8 0,.int .u8 0,.int .u8 0,.int .u8 0,.int .u8 0,.int .u8 0,.int .u8 0,.int .u8 0,.int .u8 0,.int .u8 0,.int .u8 0,.int .u8 0,.int .u8 0,.int .u8 0,.int .u8 0,.int .u8 0,.int .u8 0,.int .u8 0,.int .u8 0],[]⟩),
  (152,⟨.other,1,8,[.nilFunc],[]⟩),
  (153,⟨.other,1,8,[.nilFunc],[]⟩),
  (154,⟨.other,1,8,[.nilFunc],[]⟩),
  (155,⟨.other,1,8,[.nilFunc],[]⟩),
  (156,⟨.other,1,8,[.nilFunc],[]⟩),
  (157,⟨.other,1,8,[.nilFunc],[]⟩),
  (158,⟨.other,1,8,[.nilFunc],[]⟩),
  (159,⟨.other,1,8,[.nilFunc],[]⟩),
  (160,⟨.other,1,8,[.nilFunc],[]⟩),
  (161,⟨.other,1,8,[.nilFunc],[]⟩),
  (162,⟨.other,1,8,[.nilFunc],[]⟩),
  (163,⟨.other,1,8,[.nilFunc],[]⟩),
  (164,⟨.other,1,8,[.nilFunc],[]⟩),
  (165,⟨.int .u64,1,8,[.int .u64 0],[]⟩),
  (166,⟨.other,1,8,[.nilFunc],[]⟩),
  (167,⟨.other,1,8,[.nilFunc],[]⟩),
  (168,⟨.other,1,8,[.nilFunc],[]⟩),
  (169,⟨.other,1,8,[.nilFunc],[]⟩),
  (170,⟨.map 3 3,1,8,[.map none],[]⟩),
  (171,⟨.other,1,8,[.nilFunc],[]⟩),
  (173,⟨.other,1,8,[.nilFunc],[]⟩),
  (174,⟨.other,1,8,[.nilFunc],[]⟩),
  (175,⟨.ptr 177,1,8,[.pointer none],[]⟩),
  (176,⟨.struct [(0,9),(1,70),(2,3),(3,4),(4,4)],5,56,[.string .empty,.slice none 0 0,.int .i64 0,.bool false,.bool false],[]⟩),
  (177,⟨.struct [(0,9),(1,70),(2,3),(3,4),(4,4)],5,56,[.string .empty,.slice none 0 0,.int .i64 0,.bool false,.bool false],[]⟩),
  (179,⟨.other,1,8,[.nilFunc],[]⟩),
  (180,⟨.other,1,8,[.nilFunc],[]⟩),
  (181,⟨.other,1,8,[.nilFunc],[]⟩),
  (182,⟨.arr 3 9,3,48,[.string .empty,.string .empty,.string .empty],[]⟩),
  (183,⟨.slice 182,1,24,[.slice none 0 0],[]⟩),
  (184,⟨.other,1,8,[.nilFunc],[]⟩),
  (185,⟨.other,1,8,[.nilFunc],[]⟩),
  (186,⟨.other,1,8,[.nilFunc],[]⟩),
  (187,⟨.other,1,8,[.nilFunc],[]⟩),
  (188,⟨.other,1,8,[.nilFunc],[]⟩),
  (189,⟨.other,1,8,[.nilFunc],[]⟩),
  (190,⟨.other,1,8,[.nilFunc],[]⟩),
  (194,⟨.other,1,8,[.nilFunc],[]⟩),
  (195,⟨.arr 2 3,2,16,[.int .i64 0,.int .i64 0],[]⟩),
  (196,⟨.arr 37 195,74,592,[.int .i64 0,.int .i64 0,.int .i64 0,.int .i64 0,.int .i64 0,.int .i64 0,.int .i64 0,.int .i64 0,.int .i64 0,.int .i64 0,.int .i64 0,.int .i64 0,.int .i64 0,.int .i64 0,.int .i64 0,.int .i64 0,.int .i64 0,.int .i64 0,.int .i64 0,.int .i64 0,.int .i64 0,.int .i64 0,.int .i64 0,.int .i64 0,.int .i64 0,.int .i64 0,.int .i64 0,.int .i64 0,.int .i64 0,.int .i64 0,.int .i64 0,.int .i64 0,.int .i64 0,.int .i64 0,.int .i64 0,.int .i64 0,.int .i64 0,.int .i64 0,.int .i64 0,.int .i64 0,.int .i64 0,.int .i64 0,.int .i64 0,.int .i64 0,.int .i64 0,.int .i64 0,.int .i64 0,.int .i64 0,.int .i64 0,.int .i64 0,.int .i64 0,.int .i64 0,.int .i64 0,.int .i64 0,.int .i64 0,.int .i64 0,.int .i64 0,.int .i64 0,.int .i64 0,.int .i64 0,.int .i64 0,.int .i64 0,.int .i64 0,.int .i64 0,.int .i64 0,.int .i64 0,.int .i64 0,.int .i64 0,.int .i64 0,.int .i64 0,.int .i64 0,.int .i64 0,.int .i64 0,.int .i64 0],[]⟩),
  (197,⟨.other,1,8,[.nilFunc],[]⟩),
  (198,⟨.int .i64,1,8,[.int .i64 0],[]⟩),
  (200,⟨.other,1,8,[.nilFunc],[]⟩),
  (201,⟨.other,1,8,[.nilFunc],[]⟩),
  (202,⟨.other,1,8,[.nilFunc],[]⟩),
  (203,⟨.other,1,8,[.nilFunc],[]⟩),
  (204,⟨.other,1,8,[.nilFunc],[]⟩),
  (205,⟨.other,1,8,[.nilFunc],[]⟩),
  (206,⟨.other,1,8,[.nilFunc],[]⟩),
  (207,⟨.map 31 3,1,8,[.map none],[]⟩),
  (208,⟨.other,1,8,[.nilFunc],[]⟩),
  (209,⟨.other,1,8,[.nilFunc],[]⟩),
  (210,⟨.other,1,8,[.nilFunc],[]⟩),
  (211,⟨.other,1,8,[.nilFunc],[]⟩),
  (212,⟨.other,1,8,[.nilFunc],[]⟩),
  (213,⟨.other,1,8,[.nilFunc],[]⟩),
  (214,⟨.other,1,8,[.nilFunc],[]⟩),
  (215,⟨.arr 64 142,64,256,[.int .u32 0,.int .u32 0,.int .u32 0,.int .u32 0,.int .u32 0,.int .u32 0,.int .u32 0,.int .u32 0,.int .u32 0,.int .u32 0,.int .u32 0,.int .u32 0,.int .u32 0,.int .u32 0,.int .u32 0,.int .u32 0,.int .u32 0,.int .u32 0,.int .u32 0,.int .u32 0,.int .u32 0,.int .u32 0,.int .u32 0,.int .u32 0,.int .u32 0,.int .u32 0,.int .u32 0,.int .u32 0,.int .u32 0,.int .u32 0,.int .u32 0,.int .u32 0,.int .u32 0,.int .u32 0,.int .u32 0,.int .u32 0,.int .u32 0,.int .u32 0,.int .u32 0,.int .u32 0,.int .u32 0,.int .u32 0,.int .u32 0,.int .u32 0,.int .u32 0,.int .u32 0,.int .u32 0,.int .u32 0,.int .u32 0,.int .u32 0,.int .u32 0,.int .u32 0,.int .u32 0,.int .u32 0,.int .u32 0,.int .u32 0,.int .u32 0,.int .u32 0,.int .u32 0,.int .u32 0,.int .u32 0,.int .u32 0,.int .u32 0,.int .u32 0],[]⟩),
  (216,⟨.other,1,8,[.nilFunc],[]⟩),
  (217,⟨.arr 4 142,4,16,[.int .u32 0,.int .u32 0,.int .u32 0,.int .u32 0],[]⟩),
  (218,⟨.slice 142,1,24,[.slice none 0 0],[]⟩),
  (219,⟨.other,1,8,[.nilFunc],[]⟩),
  (220,⟨.other,1,8,[.nilFunc],[]⟩),
  (221,⟨.ptr 27,1,8,[.pointer none],[]⟩),
  (222,⟨.other,1,8,[.nilFunc],[]⟩),
  (223,⟨.other,1,8,[.nilFunc],[]⟩),
  (224,⟨.other,1,8,[.nilFunc],[]⟩),
  (225,⟨.other,1,8,[.nilFunc],[]⟩),
  (226,⟨.other,1,8,[.nilFunc],[]⟩),
  (227,⟨.int .u64,1,8,[.int .u64 0],[]⟩),
  (228,⟨.other,1,8,[.nilFunc],[]⟩),
  (229,⟨.other,1,8,[.nilFunc],[]⟩),
  (230,⟨.other,1,8,[.nilFunc],[]⟩),
  (231,⟨.ptr 3,1,8,[.pointer none],[]⟩),
  (232,⟨.other,1,8,[.nilFunc],[]⟩),
  (233,⟨.other,1,8,[.nilFunc],[]⟩),
  (234,⟨.other,1,8,[.nilFunc],[]⟩),
  (236,⟨.other,1,8,[.nilFunc],[]⟩),
  (237,⟨.int .i64,1,8,[.int .i64 0],[]⟩),
  (239,⟨.other,1,8,[.nilFunc],[]⟩),
  (240,⟨.ptr 262,1,8,[.pointer none],[]⟩),
  (241,⟨.other,1,8,[.nilFunc],[]⟩),
  (242,⟨.other,1,8,[.nilFunc],[]⟩),
  (243,⟨.slice 138,1,24,[.slice none 0 0],[]⟩),
  (244,⟨.struct [(0,9),(1,3)],2,24,[.string .empty,.int .i64 0],[.str,.int .i64]⟩),
  (245,⟨.struct [(0,9),(1,3)],2,24,[.string .empty,.int .i64 0],[.str,.int .i64]⟩),
  (246,⟨.arr 6 245,12,144,[.string .empty,.int .i64 0,.string .empty,.int .i64 0,.string .empty,.int .i64 0,.string .empty,.int .i64 0,.string .empty,.int .i64 0,.string .empty,.int .i64 0],[.str,.int .i64,.str,.int .i64,.str,.int .i64,.str,.int .i64,.str,.int .i64,.str,.int .i64]⟩),
  (247,⟨.arr 24 5,24,24,[.int .u8 0,.int .u8 0,.int .u8 0,.int .u8 0,.int .u8 0,.int .u8 0,.int .u8 0,.int .u8 0,.int .u8 0,.int .u8 0,.int .u8 0,.int .u8 0,.int .u8 0,.int .u8 0,.int .u8 0,.int .u8 0,.int .u8 0,.int .u8 0,.int .u8 0,.int .u8 0,.int .u8 0,.int .u8 0,.int .u8 0,.int .u8 0],[]⟩),
  (248,⟨.other,1,8,[.nilFunc],[]⟩),
  (250,⟨.other,1,8,[.nilFunc],[]⟩),
  (251,⟨.ptr 227,1,8,[.pointer none],[]⟩),
  (253,⟨.other,1,8,[.nilFunc],[]⟩),
  (254,⟨.other,1,8,[.nilFunc],[]⟩),
  (255,⟨.other,1,8,[.nilFunc],[]⟩),
  (256,⟨.slice 245,1,24,[.slice none 0 0],[]⟩),
  (257,⟨.other,1,8,[.nilFunc],[]⟩),
  (259,⟨.other,1,8,[.nilFunc],[]⟩),
  (260,⟨.other,1,8,[.nilFunc],[]⟩),
  (263,⟨.other,1,8,[.nilFunc],[]⟩),
  (264,⟨.other,1,8,[.nilFunc],[]⟩),
  (265,⟨.arr 20 145,20,160,[.int .u64 0,.int .u64 0,.int .u64 0,.int .u64 0,.int .u64 0,.int .u64 0,.int .u64 0,.int .u64 0,.int .u64 0,.int .u64 0,.int .u64 0,.int .u64 0,.int .u64 0,.int .u64 0,.int .u64 0,.int .u64 0,.int .u64 0,.int .u64 0,.int .u64 0,.int .u64 0],[]⟩),
  (266,⟨.arr 65 5,65,65,[.int .u8 0,.int .u8 0,.int .u8 0,.int .u8 0,.int .u8 0,.int .u8 0,.int .u8 0,.int .u8 0,.int .u8 0,.int .u8 0,.int .u8 0,.int .u8 0,.int .u8 0,.int .u8 0,.int .u8 0,.int .u8 0,.int .u8 0,.int .u8 0,.int .u8 0,.int .u8 0,.int .u8 0,.int .u8 0,.int .u8 0,.int .u8 0,.int .u8 0,.int .u8 0,.int .u8 0,.int .u8 0,.int .u8 0,.int .u8 0,.int .u8 0,.int .u8 0,.int .u8 0,.int .u8 0,.int .u8 0,.int .u8 0,.int .u8 0,.int .u8 0,.int .u8 0,.int .u8 0,.int .u8 0,.int .u8 0,.int .u8 0,.int .u8 0,.int .u8 0,.int .u8 0,.int .u8 0,.int .u8 0,.int .u8 0,.int .u8 0,.int .u8 0,.int .u8 0,.int .u8 0,.int .u8 0,.int .u8 0,.int .u8 0,.int .u8 0,.int .u8 0,.int .u8 0,.int .u8 0,.int .u8 0,.int .u8 0,.int .u8 0,.int .u8 0,.int .u8 0],[]⟩),
  (268,⟨.other,1,8,[.nilFunc],[]⟩),
  (269,⟨.other,1,8,[.nilFunc],[]⟩),
  (270,⟨.other,1,8,[.nilFunc],[]⟩),
  (271,⟨.other,1,8,[.nilFunc],[]⟩),
  (272,⟨.ptr 5,1,8,[.pointer none],[]⟩),
  (273,⟨.ptr 275,1,8,[.pointer none],[]⟩),
  (274,⟨.struct [(0,9)],1,16,[.string .empty],[.str]⟩),
  (275,⟨.struct [(0,9)],1,16,[.string .empty],[.str]⟩),
  (281,⟨.int .u8,1,1,[.int .u8 0],[]⟩),
  (282,⟨.int .u8,1,1,[.int .u8 0],[]⟩),
  (283,⟨.other,1,8,[.nilFunc],[]⟩),
  (284,⟨.int .i32,1,4,[.int .i32 0],[]⟩),
  (285,⟨.int .i32,1,4,[.int .i32 0],[]⟩),
  (286,⟨.struct [(0,12),(1,12),(2,142),(3,281),(4,5),(5,5),(6,282),(7,283),(8,272),(9,284),(10,285)],11,48,[.int .u64 0,.int .u64 0,.int .u32 0,.int .u8 0,.int .u8 0,.int .u8 0,.int .u8 0,.nilFunc,.pointer none,.int .i32 0,.int .i32 0],[]⟩),
  (287,⟨.struct [(0,12),(1,12),(2,142),(3,281),(4,5),(5,5),(6,282),(7,283),(8,272),(9,284),(10,285)],11,48,[.int .u64 0,.int .u64 0,.int .u32 0,.int .u8 0,.int .u8 0,.int .u8 0,.int .u8 0,.nilFunc,.pointer none,.int .i32 0,.int .i32 0],[]⟩)]
def T:TypeId→lF:=sC EF
theorem hT:mP Go.Proofs.Tryz.prog T:=LE (by kernel_rfl)
theorem hW:Ho T:=NK (by kernel_rfl)
@[simp] theorem t2:T 2=⟨.int .i64,1,8,[.int .i64 0],[]⟩:=by kernel_rfl
@[simp] theorem t3:T 3=⟨.int .i64,1,8,[.int .i64 0],[]⟩:=by kernel_rfl
@[simp] theorem t4:T 4=⟨.bool,1,1,[.bool false],[]⟩:=by kernel_rfl
@[simp] theorem t5:T 5=⟨.int .u8,1,1,[.int .u8 0],[]⟩:=by kernel_rfl
@[simp] theorem t6:T 6=⟨.int .u8,1,1,[.int .u8 0],[]⟩:=by kernel_rfl
@[simp] theorem t9:T 9=⟨.str,1,16,[.string .empty],[]⟩:=by kernel_rfl
@[simp] theorem Wx:T 10=⟨.str,1,16,[.string .empty],[]⟩:=by kernel_rfl
@[simp] theorem Wy:T 11=⟨.str,1,16,[.string .empty],[]⟩:=by kernel_rfl
@[simp] theorem Wz:T 12=⟨.int .u64,1,8,[.int .u64 0],[]⟩:=by kernel_rfl
@[simp] theorem t21:T 21=⟨.int .i32,1,4,[.int .i32 0],[]⟩:=by kernel_rfl
@[simp] theorem WA:T 22=⟨.slice 3,1,24,[.slice none 0 0],[]⟩:=by kernel_rfl
@[simp] theorem WB:T 23=⟨.other,1,8,[.nilFunc],[]⟩:=by kernel_rfl
@[simp] theorem WC:T 24=⟨.other,1,8,[.nilFunc],[]⟩:=by kernel_rfl
@[simp] theorem WD:T 25=⟨.slice 27,1,24,[.slice none 0 0],[]⟩:=by kernel_rfl
@[simp] theorem t26:T 26=⟨.struct [(0,3),(1,9),(2,3),(3,25)],4,56,[.int .i64 0,.string .empty,.int .i64 0,.slice none 0 0],[]⟩:=by kernel_rfl
@[simp] theorem t27:T 27=⟨.struct [(0,3),(1,9),(2,3),(3,25)],4,56,[.int .i64 0,.string .empty,.int .i64 0,.slice none 0 0],[]⟩:=by kernel_rfl
@[simp] theorem WE:T 28=⟨.other,1,8,[.nilFunc],[]⟩:=by kernel_rfl
@[simp] theorem t29:T 29=⟨.other,1,8,[.nilFunc],[]⟩:=by kernel_rfl
@[simp] theorem WF:T 30=⟨.slice 9,1,24,[.slice none 0 0],[]⟩:=by kernel_rfl
@[simp] theorem WG:T 31=⟨.int .i64,1,8,[.int .i64 0],[]⟩:=by kernel_rfl
@[simp] theorem WH:T 33=⟨.other,1,8,[.nilFunc],[]⟩:=by kernel_rfl
@[simp] theorem WI:T 34=⟨.other,1,8,[.nilFunc],[]⟩:=by kernel_rfl
@[simp] theorem t35:T 35=⟨.other,1,8,[.nilFunc],[]⟩:=by kernel_rfl
@[simp] theorem t36:T 36=⟨.other,1,8,[.nilFunc],[]⟩:=by kernel_rfl
@[simp] theorem t37:T 37=⟨.other,1,8,[.nilFunc],[]⟩:=by kernel_rfl
@[simp] theorem WJ:T 38=⟨.other,1,8,[.nilFunc],[]⟩:=by kernel_rfl
@[simp] theorem WK:T 39=⟨.other,1,8,[.nilFunc],[]⟩:=by kernel_rfl
@[simp] theorem WL:T 40=⟨.other,1,8,[.nilFunc],[]⟩:=by kernel_rfl
@[simp] theorem t41:T 41=⟨.other,1,8,[.nilFunc],[]⟩:=by kernel_rfl
@[simp] theorem WM:T 42=⟨.other,1,8,[.nilFunc],[]⟩:=by kernel_rfl
@[simp] theorem WN:T 43=⟨.other,1,8,[.nilFunc],[]⟩:=by kernel_rfl
@[simp] theorem t44:T 44=⟨.slice 48,1,24,[.slice none 0 0],[]⟩:=by kernel_rfl
@[simp] theorem WO:T 45=⟨.other,1,8,[.nilFunc],[]⟩:=by kernel_rfl
@[simp] theorem WP:T 47=⟨.other,1,8,[.nilFunc],[]⟩:=by kernel_rfl
@[simp] theorem WQ:T 48=⟨.slice 54,1,24,[.slice none 0 0],[]⟩:=by kernel_rfl
@[simp] theorem WR:T 49=⟨.other,1,8,[.nilFunc],[]⟩:=by kernel_rfl
@[simp] theorem WS:T 50=⟨.other,1,8,[.nilFunc],[]⟩:=by kernel_rfl
@[simp] theorem t51:T 51=⟨.other,1,8,[.nilFunc],[]⟩:=by kernel_rfl
@[simp] theorem WT:T 52=⟨.other,1,8,[.nilFunc],[]⟩:=by kernel_rfl
@[simp] theorem t53:T 53=⟨.struct [(0,9),(1,9)],2,32,[.string .empty,.string .empty],[.str,.str]⟩:=by kernel_rfl
@[simp] theorem WU:T 54=⟨.struct [(0,9),(1,9)],2,32,[.string .empty,.string .empty],[.str,.str]⟩:=by kernel_rfl
@[simp] theorem WV:T 56=⟨.other,1,8,[.nilFunc],[]⟩:=by kernel_rfl
@[simp] theorem WW:T 58=⟨.other,1,8,[.nilFunc],[]⟩:=by kernel_rfl
@[simp] theorem WX:T 59=⟨.other,1,8,[.nilFunc],[]⟩:=by kernel_rfl
@[simp] theorem WY:T 61=⟨.other,1,8,[.nilFunc],[]⟩:=by kernel_rfl
@[simp] theorem WZ:T 62=⟨.other,1,8,[.nilFunc],[]⟩:=by kernel_rfl
@[simp] theorem t63:T 63=⟨.other,1,8,[.nilFunc],[]⟩:=by kernel_rfl
@[simp] theorem t64:T 64=⟨.arr 16 5,16,16,[.int .u8 0,.int .u8 0,.int .u8 0,.int .u8 0,.int .u8 0,.int .u8 0,.int .u8 0,.int .u8 0,.int .u8 0,.int .u8 0,.int .u8 0,.int .u8 0,.int .u8 0,.int .u8 0,.int .u8 0,.int .u8 0],[]⟩:=by kernel_rfl
@[simp] theorem Xa:T 65=⟨.arr 16 5,16,16,[.int .u8 0,.int .u8 0,.int .u8 0,.int .u8 0,.int .u8 0,.int .u8 0,.int .u8 0,.int .u8 0,.int .u8 0,.int .u8 0,.int .u8 0,.int .u8 0,.int .u8 0,.int .u8 0,.int .u8 0,.int .u8 0],[]⟩:=by kernel_rfl
@[simp] theorem Xb:T 66=⟨.other,1,8,[.nilFunc],[]⟩:=by kernel_rfl
@[simp] theorem Xd:T 67=⟨.other,1,8,[.nilFunc],[]⟩:=by kernel_rfl
@[simp] theorem Xe:T 68=⟨.other,1,8,[.nilFunc],[]⟩:=by kernel_rfl
@[simp] theorem Xf:T 69=⟨.other,1,8,[.nilFunc],[]⟩:=by kernel_rfl
@[simp] theorem Xg:T 70=⟨.slice 74,1,24,[.slice none 0 0],[]⟩:=by kernel_rfl
@[simp] theorem Xh:T 72=⟨.other,1,8,[.nilFunc],[]⟩:=by kernel_rfl
@[simp] theorem Xi:T 73=⟨.struct [(0,3),(1,3)],2,16,[.int .i64 0,.int .i64 0],[.int .i64,.int .i64]⟩:=by kernel_rfl
@[simp] theorem Xj:T 74=⟨.struct [(0,3),(1,3)],2,16,[.int .i64 0,.int .i64 0],[.int .i64,.int .i64]⟩:=by kernel_rfl
@[simp] theorem t75:T 75=⟨.slice 5,1,24,[.slice none 0 0],[]⟩:=by kernel_rfl
@[simp] theorem t76:T 76=⟨.other,1,8,[.nilFunc],[]⟩:=by kernel_rfl
@[simp] theorem Xk:T 77=⟨.ptr 79,1,8,[.pointer none],[]⟩:=by kernel_rfl
@[simp] theorem Xl:T 78=⟨.struct [(0,22),(1,3)],2,32,[.slice none 0 0,.int .i64 0],[]⟩:=by kernel_rfl
@[simp] theorem Xm:T 79=⟨.struct [(0,22),(1,3)],2,32,[.slice none 0 0,.int .i64 0],[]⟩:=by kernel_rfl
@[simp] theorem Xn:T 80=⟨.other,1,8,[.nilFunc],[]⟩:=by kernel_rfl
@[simp] theorem Xo:T 81=⟨.other,1,8,[.nilFunc],[]⟩:=by kernel_rfl
@[simp] theorem Xp:T 82=⟨.other,1,8,[.nilFunc],[]⟩:=by kernel_rfl
@[simp] theorem Xq:T 83=⟨.slice 91,1,24,[.slice none 0 0],[]⟩:=by kernel_rfl
@[simp] theorem t85:T 85=⟨.other,1,8,[.nilFunc],[]⟩:=by kernel_rfl
@[simp] theorem Xr:T 86=⟨.ptr 88,1,8,[.pointer none],[]⟩:=by kernel_rfl
@[simp] theorem Xs:T 87=⟨.struct [(0,83),(1,31)],2,32,[.slice none 0 0,.int .i64 0],[]⟩:=by kernel_rfl
@[simp] theorem Xt:T 88=⟨.struct [(0,83),(1,31)],2,32,[.slice none 0 0,.int .i64 0],[]⟩:=by kernel_rfl
@[simp] theorem Xu:T 89=⟨.other,1,8,[.nilFunc],[]⟩:=by kernel_rfl
@[simp] theorem Xv:T 90=⟨.struct [(0,9),(1,3)],2,24,[.string .empty,.int .i64 0],[.str,.int .i64]⟩:=by kernel_rfl
@[simp] theorem Xw:T 91=⟨.struct [(0,9),(1,3)],2,24,[.string .empty,.int .i64 0],[.str,.int .i64]⟩:=by kernel_rfl
@[simp] theorem Xx:T 92=⟨.other,1,8,[.nilFunc],[]⟩:=by kernel_rfl
@[simp] theorem Xy:T 93=⟨.other,1,8,[.nilFunc],[]⟩:=by kernel_rfl
@[simp] theorem Xz:T 95=⟨.other,1,8,[.nilFunc],[]⟩:=by kernel_rfl
@[simp] theorem XA:T 96=⟨.other,1,8,[.nilFunc],[]⟩:=by kernel_rfl
@[simp] theorem XB:T 97=⟨.other,1,8,[.nilFunc],[]⟩:=by kernel_rfl
@[simp] theorem XC:T 98=⟨.other,1,8,[.nilFunc],[]⟩:=by kernel_rfl
@[simp] theorem XD:T 99=⟨.other,1,8,[.nilFunc],[]⟩:=by kernel_rfl
@[simp] theorem Tn:T 100=⟨.arr 26 9,26,416,[.string .empty,.string .empty,.string .empty,.string .empty,.string .empty,.string .empty,.string .empty,.string .empty,.string .empty,.string .empty,.string .empty,.string .empty,.string .empty,.string .empty,.string .empty,.string .empty,.string .empty,.string .empty,.string .empty,.string .empty,.string .empty,.string .empty,.string .empty,.string .empty,.string .empty,.string .empty],[]⟩:=by kernel_rfl
@[simp] theorem To:T 101=⟨.other,1,8,[.nilFunc],[]⟩:=by kernel_rfl
@[simp] theorem Tp:T 102=⟨.other,1,8,[.nilFunc],[]⟩:=by kernel_rfl
@[simp] theorem Tq:T 103=⟨.other,1,8,[.nilFunc],[]⟩:=by kernel_rfl
@[simp] theorem Tr:T 104=⟨.map 9 3,1,8,[.map none],[]⟩:=by kernel_rfl
@[simp] theorem Ts:T 105=⟨.struct [(0,25),(1,104)],2,32,[.slice none 0 0,.map none],[]⟩:=by kernel_rfl
@[simp] theorem Tt:T 106=⟨.struct [(0,25),(1,104)],2,32,[.slice none 0 0,.map none],[]⟩:=by kernel_rfl
@[simp] theorem Tu:T 108=⟨.other,1,8,[.nilFunc],[]⟩:=by kernel_rfl
@[simp] theorem Tv:T 109=⟨.other,1,8,[.nilFunc],[]⟩:=by kernel_rfl
@[simp] theorem Tw:T 110=⟨.other,1,8,[.nilFunc],[]⟩:=by kernel_rfl
@[simp] theorem Tx:T 111=⟨.other,1,8,[.nilFunc],[]⟩:=by kernel_rfl
@[simp] theorem Ty:T 112=⟨.other,1,8,[.nilFunc],[]⟩:=by kernel_rfl
@[simp] theorem Tz:T 113=⟨.other,1,8,[.nilFunc],[]⟩:=by kernel_rfl
@[simp] theorem TA:T 114=⟨.other,1,8,[.nilFunc],[]⟩:=by kernel_rfl
@[simp] theorem TB:T 115=⟨.other,1,8,[.nilFunc],[]⟩:=by kernel_rfl
@[simp] theorem TC:T 116=⟨.other,1,8,[.nilFunc],[]⟩:=by kernel_rfl
@[simp] theorem TD:T 117=⟨.other,1,8,[.nilFunc],[]⟩:=by kernel_rfl
@[simp] theorem TE:T 118=⟨.other,1,8,[.nilFunc],[]⟩:=by kernel_rfl
@[simp] theorem TF:T 119=⟨.other,1,8,[.nilFunc],[]⟩:=by kernel_rfl
@[simp] theorem TG:T 120=⟨.map 9 4,1,8,[.map none],[]⟩:=by kernel_rfl
@[simp] theorem TH:T 121=⟨.other,1,8,[.nilFunc],[]⟩:=by kernel_rfl
@[simp] theorem TI:T 122=⟨.other,1,8,[.nilFunc],[]⟩:=by kernel_rfl
@[simp] theorem TJ:T 123=⟨.other,1,8,[.nilFunc],[]⟩:=by kernel_rfl
@[simp] theorem TM:T 124=⟨.struct [(0,3),(1,9),(2,9)],3,40,[.int .i64 0,.string .empty,.string .empty],[.int .i64,.str,.str]⟩:=by kernel_rfl
@[simp] theorem TN:T 125=⟨.struct [(0,3),(1,9),(2,9)],3,40,[.int .i64 0,.string .empty,.string .empty],[.int .i64,.str,.str]⟩:=by kernel_rfl
@[simp] theorem TO:T 126=⟨.other,1,8,[.nilFunc],[]⟩:=by kernel_rfl
@[simp] theorem t127:T 127=⟨.other,1,8,[.nilFunc],[]⟩:=by kernel_rfl
@[simp] theorem TP:T 128=⟨.other,1,8,[.nilFunc],[]⟩:=by kernel_rfl
@[simp] theorem TQ:T 129=⟨.other,1,8,[.nilFunc],[]⟩:=by kernel_rfl
@[simp] theorem TR:T 130=⟨.other,1,8,[.nilFunc],[]⟩:=by kernel_rfl
@[simp] theorem TS:T 131=⟨.slice 134,1,24,[.slice none 0 0],[]⟩:=by kernel_rfl
@[simp] theorem TT:T 132=⟨.other,1,8,[.nilFunc],[]⟩:=by kernel_rfl
@[simp] theorem TU:T 133=⟨.struct [(0,3),(1,3),(2,9),(3,9)],4,48,[.int .i64 0,.int .i64 0,.string .empty,.string .empty],[.int .i64,.int .i64,.str,.str]⟩:=by kernel_rfl
@[simp] theorem TV:T 134=⟨.struct [(0,3),(1,3),(2,9),(3,9)],4,48,[.int .i64 0,.int .i64 0,.string .empty,.string .empty],[.int .i64,.int .i64,.str,.str]⟩:=by kernel_rfl
@[simp] theorem TW:T 136=⟨.map 3 4,1,8,[.map none],[]⟩:=by kernel_rfl
@[simp] theorem TX:T 137=⟨.other,1,8,[.nilFunc],[]⟩:=by kernel_rfl
@[simp] theorem TY:T 138=⟨.other,1,8,[.nilFunc],[]⟩:=by kernel_rfl
@[simp] theorem TZ:T 139=⟨.other,1,8,[.nilFunc],[]⟩:=by kernel_rfl
@[simp] theorem Ua:T 140=⟨.other,1,8,[.nilFunc],[]⟩:=by kernel_rfl
@[simp] theorem Ub:T 141=⟨.other,1,8,[.nilFunc],[]⟩:=by kernel_rfl
@[simp] theorem Uc:T 142=⟨.int .u32,1,4,[.int .u32 0],[]⟩:=by kernel_rfl
@[simp] theorem t143:T 143=⟨.arr 8 142,8,32,[.int .u32 0,.int .u32 0,.int .u32 0,.int .u32 0,.int .u32 0,.int .u32 0,.int .u32 0,.int .u32 0],[]⟩:=by kernel_rfl
@[simp] theorem Ud:T 144=⟨.arr 64 5,64,64,[.int .u8 0,.int .u8 0,.int .u8 0,.int .u8 0,.int .u8 0,.int .u8 0,.int .u8 0,.int .u8 0,.int .u8 0,.int .u8 0,.int .u8 0,.int .u8 0,.int .u8 0,.int .u8 0,.int .u8 0,.int .u8 0,.int .u8 0,.int .u8 0,.int .u8 0,.int .u8 0,.int .u8 0,.int .u8 0,.int .u8 0,.int .u8 0,.int .u8 0,.int .u8 0,.int .u8 0,.int .u8 0,.int .u8 0,.int .u8 0,.int .u8 0,.int .u8 0,.int .u8 0,.int .u8 0,.int .u8 0,.int .u8 0,.int .u8 0,.int .u8 0,.int .u8 0,.int .u8 0,.int .u8 0,.int .u8 0,.int .u8 0,.int .u8 0,.int .u8 0,.int .u8 0,.int .u8 0,.int .u8 0,.int .u8 0,.int .u8 0,.int .u8 0,.int .u8 0,.int .u8 0,.int .u8 0,.int .u8 0,.int .u8 0,.int .u8 0,.int .u8 0,.int .u8 0,.int .u8 0,.int .u8 0,.int .u8 0,.int .u8 0,.int .u8 0],[]⟩:=by kernel_rfl
@[simp] theorem t145:T 145=⟨.int .u64,1,8,[.int .u64 0],[]⟩:=by kernel_rfl
@[simp] theorem Ue:T 146=⟨.struct [(0,143),(8,144),(72,145)],73,104,[.int .u32 0,.int .u32 0,.int .u32 0,.int .u32 0,.int .u32 0,.int .u32 0,.int .u32 0,.int .u32 0,.int .u8 0,.int .u8 0,.int .u8 0,.int .u8 0,.int .u8 0,.int .u8 0,.int .u8 0,.int .u8 0,.int .u8 0,.int .u8 0,.int .u8 0,.int .u8 0,.int .u8 0,.int .u8 0,.int .u8 0,.int .u8 0,.int .u8 0,.int .u8 0,.int .u8 0,.int .u8 0,.int .u8 0,.int .u8 0,.int .u8 0,.int .u8 0,.int .u8 0,.int .u8 0,.int .u8 0,.int .u8 0,.int .u8 0,.int .u8 0,.int .u8 0,.int .u8 0,.int .u8 0,.int .u8 0,.int .u8 0,.int .u8 0,.int .u8 0,.int .u8 0,.int .u8 0,.int .u8 0,.int .u8 0,.int .u8 0,.int .u8 0,.int .u8 0,.int .u8 0,.int .u8 0,.int .u8 0,.int .u8 0,.int .u8 0,.int .u8 0,.int .u8 0,.int .u8 0,.int .u8 0,.int .u8 0,.int .u8 0,.int .u8 0,.int .u8 0,.int .u8 0,.int .u8 0,.int .u8 0,.int .u8 0,.int .u8 0,.int .u8 0,.int .u8 0,.int .u64 0],[]⟩:=by kernel_rfl
@[simp] theorem Uf:T 147=⟨.struct [(0,143),(8,144),(72,145)],73,104,[.int .u32 0,.int .u32 0,.int .u32 0,.int .u32 0,.int .u32 0,.int .u32 0,.int .u32 0,.int .u32 0,.int .u8 0,.int .u8 0,.int .u8 0,.int .u8 0,.int .u8 0,.int .u8 0,.int .u8 0,.int .u8 0,.int .u8 0,.int .u8 0,.int .u8 0,.int .u8 0,.int .u8 0,.int .u8 0,.int .u8 0,.int .u8 0,.int .u8 0,.int .u8 0,.int .u8 0,.int .u8 0,.int .u8 0,.int .u8 0,.int .u8 0,.int .u8 0,.int .u8 0,.int .u8 0,.int .u8 0,.int .u8 0,.int .u8 0,.int .u8 0,.int .u8 0,.int .u8 0,.int .u8 0,.int .u8 0,.int .u8 0,.int .u8 0,.int .u8 0,.int .u8 0,.int .u8 0,.int .u8 0,.int .u8 0,.int .u8 0,.int .u8 0,.int .u8 0,.int .u8 0,.int .u8 0,.int .u8 0,.int .u8 0,.int .u8 0,.int .u8 0,.int .u8 0,.int .u8 0,.int .u8 0,.int .u8 0,.int .u8 0,.int .u8 0,.int .u8 0,.int .u8 0,.int .u8 0,.int .u8 0,.int .u8 0,.int .u8 0,.int .u8 0,.int .u8 0,.int .u64 0],[]⟩:=by kernel_rfl
@[simp] theorem Ug:T 148=⟨.other,1,8,[.nilFunc],[]⟩:=by kernel_rfl
@[simp] theorem Uh:T 149=⟨.other,1,8,[.nilFunc],[]⟩:=by kernel_rfl
@[simp] theorem Ui:T 150=⟨.other,1,8,[.nilFunc],[]⟩:=by kernel_rfl
@[simp] theorem Uj:T 151=⟨.arr 32 5,32,32,[.int .u8 0,.int .u8 0,.int .u8 0,.int .u8 0,.int .u8 0,.int .u8 0,.int .u8 0,.int .u8 0,.int .u8 0,.int .u8 0,.int .u8 0,.int .u8 0,.int .u8 0,.int .u8 0,.int .u8 0,.int .u8 0,.int .u8 0,.int .u8 0,.int .u8 0,.int .u8 0,.int .u8 0,.int .u8 0,.int .u8 0,.int .u8 0,.int .u8 0,.int .u8 0,.int .u8 0,.int .u8 0,.int .u8 0,.int .u8 0,.int .u8 0,.int .u8 0],[]⟩:=by kernel_rfl
@[simp] theorem Uk:T 152=⟨.other,1,8,[.nilFunc],[]⟩:=by kernel_rfl
@[simp] theorem Ul:T 153=⟨.other,1,8,[.nilFunc],[]⟩:=by kernel_rfl
@[simp] theorem Um:T 154=⟨.other,1,8,[.nilFunc],[]⟩:=by kernel_rfl
@[simp] theorem Un:T 155=⟨.other,1,8,[.nilFunc],[]⟩:=by kernel_rfl
@[simp] theorem Uo:T 156=⟨.other,1,8,[.nilFunc],[]⟩:=by kernel_rfl
@[simp] theorem Up:T 157=⟨.other,1,8,[.nilFunc],[]⟩:=by kernel_rfl
@[simp] theorem Uq:T 158=⟨.other,1,8,[.nilFunc],[]⟩:=by kernel_rfl
@[simp] theorem Ur:T 159=⟨.other,1,8,[.nilFunc],[]⟩:=by kernel_rfl
@[simp] theorem Us:T 160=⟨.other,1,8,[.nilFunc],[]⟩:=by kernel_rfl
@[simp] theorem Ut:T 161=⟨.other,1,8,[.nilFunc],[]⟩:=by kernel_rfl
@[simp] theorem Uu:T 162=⟨.other,1,8,[.nilFunc],[]⟩:=by kernel_rfl
@[simp] theorem Uv:T 163=⟨.other,1,8,[.nilFunc],[]⟩:=by kernel_rfl
@[simp] theorem Uw:T 164=⟨.other,1,8,[.nilFunc],[]⟩:=by kernel_rfl
@[simp] theorem Ux:T 165=⟨.int .u64,1,8,[.int .u64 0],[]⟩:=by kernel_rfl
@[simp] theorem Uy:T 166=⟨.other,1,8,[.nilFunc],[]⟩:=by kernel_rfl
@[simp] theorem t167:T 167=⟨.other,1,8,[.nilFunc],[]⟩:=by kernel_rfl
@[simp] theorem t168:T 168=⟨.other,1,8,[.nilFunc],[]⟩:=by kernel_rfl
@[simp] theorem Uz:T 169=⟨.other,1,8,[.nilFunc],[]⟩:=by kernel_rfl
@[simp] theorem UA:T 170=⟨.map 3 3,1,8,[.map none],[]⟩:=by kernel_rfl
@[simp] theorem t171:T 171=⟨.other,1,8,[.nilFunc],[]⟩:=by kernel_rfl
@[simp] theorem t173:T 173=⟨.other,1,8,[.nilFunc],[]⟩:=by kernel_rfl
@[simp] theorem UB:T 174=⟨.other,1,8,[.nilFunc],[]⟩:=by kernel_rfl
@[simp] theorem t175:T 175=⟨.ptr 177,1,8,[.pointer none],[]⟩:=by kernel_rfl
@[simp] theorem UC:T 176=⟨.struct [(0,9),(1,70),(2,3),(3,4),(4,4)],5,56,[.string .empty,.slice none 0 0,.int .i64 0,.bool false,.bool false],[]⟩:=by kernel_rfl
@[simp] theorem UD:T 177=⟨.struct [(0,9),(1,70),(2,3),(3,4),(4,4)],5,56,[.string .empty,.slice none 0 0,.int .i64 0,.bool false,.bool false],[]⟩:=by kernel_rfl
@[simp] theorem UE:T 179=⟨.other,1,8,[.nilFunc],[]⟩:=by kernel_rfl
@[simp] theorem UF:T 180=⟨.other,1,8,[.nilFunc],[]⟩:=by kernel_rfl
@[simp] theorem UG:T 181=⟨.other,1,8,[.nilFunc],[]⟩:=by kernel_rfl
@[simp] theorem UH:T 182=⟨.arr 3 9,3,48,[.string .empty,.string .empty,.string .empty],[]⟩:=by kernel_rfl
@[simp] theorem UI:T 183=⟨.slice 182,1,24,[.slice none 0 0],[]⟩:=by kernel_rfl
@[simp] theorem UJ:T 184=⟨.other,1,8,[.nilFunc],[]⟩:=by kernel_rfl
@[simp] theorem UK:T 185=⟨.other,1,8,[.nilFunc],[]⟩:=by kernel_rfl
@[simp] theorem UL:T 186=⟨.other,1,8,[.nilFunc],[]⟩:=by kernel_rfl
@[simp] theorem UM:T 187=⟨.other,1,8,[.nilFunc],[]⟩:=by kernel_rfl
@[simp] theorem UN:T 188=⟨.other,1,8,[.nilFunc],[]⟩:=by kernel_rfl
@[simp] theorem UO:T 189=⟨.other,1,8,[.nilFunc],[]⟩:=by kernel_rfl
@[simp] theorem UP:T 190=⟨.other,1,8,[.nilFunc],[]⟩:=by kernel_rfl
@[simp] theorem UQ:T 194=⟨.other,1,8,[.nilFunc],[]⟩:=by kernel_rfl
@[simp] theorem UR:T 195=⟨.arr 2 3,2,16,[.int .i64 0,.int .i64 0],[]⟩:=by kernel_rfl
@[simp] theorem US:T 196=⟨.arr 37 195,74,592,[.int .i64 0,.int .i64 0,.int .i64 0,.int .i64 0,.int .i64 0,.int .i64 0,.int .i64 0,.int .i64 0,.int .i64 0,.int .i64 0,.int .i64 0,.int .i64 0,.int .i64 0,.int .i64 0,.int .i64 0,.int .i64 0,.int .i64 0,.int .i64 0,.int .i64 0,.int .i64 0,.int .i64 0,.int .i64 0,.int .i64 0,.int .i64 0,.int .i64 0,.int .i64 0,.int .i64 0,.int .i64 0,.int .i64 0,.int .i64 0,.int .i64 0,.int .i64 0,.int .i64 0,.int .i64 0,.int .i64 0,.int .i64 0,.int .i64 0,.int .i64 0,.int .i64 0,.int .i64 0,.int .i64 0,.int .i64 0,.int .i64 0,.int .i64 0,.int .i64 0,.int .i64 0,.int .i64 0,.int .i64 0,.int .i64 0,.int .i64 0,.int .i64 0,.int .i64 0,.int .i64 0,.int .i64 0,.int .i64 0,.int .i64 0,.int .i64 0,.int .i64 0,.int .i64 0,.int .i64 0,.int .i64 0,.int .i64 0,.int .i64 0,.int .i64 0,.int .i64 0,.int .i64 0,.int .i64 0,.int .i64 0,.int .i64 0,.int .i64 0,.int .i64 0,.int .i64 0,.int .i64 0,.int .i64 0],[]⟩:=by kernel_rfl
@[simp] theorem UT:T 197=⟨.other,1,8,[.nilFunc],[]⟩:=by kernel_rfl
@[simp] theorem UU:T 198=⟨.int .i64,1,8,[.int .i64 0],[]⟩:=by kernel_rfl
@[simp] theorem UV:T 200=⟨.other,1,8,[.nilFunc],[]⟩:=by kernel_rfl
@[simp] theorem UW:T 201=⟨.other,1,8,[.nilFunc],[]⟩:=by kernel_rfl
@[simp] theorem UX:T 202=⟨.other,1,8,[.nilFunc],[]⟩:=by kernel_rfl
@[simp] theorem UY:T 203=⟨.other,1,8,[.nilFunc],[]⟩:=by kernel_rfl
@[simp] theorem UZ:T 204=⟨.other,1,8,[.nilFunc],[]⟩:=by kernel_rfl
@[simp] theorem Va:T 205=⟨.other,1,8,[.nilFunc],[]⟩:=by kernel_rfl
@[simp] theorem Vb:T 206=⟨.other,1,8,[.nilFunc],[]⟩:=by kernel_rfl
@[simp] theorem Vc:T 207=⟨.map 31 3,1,8,[.map none],[]⟩:=by kernel_rfl
@[simp] theorem Vd:T 208=⟨.other,1,8,[.nilFunc],[]⟩:=by kernel_rfl
@[simp] theorem Ve:T 209=⟨.other,1,8,[.nilFunc],[]⟩:=by kernel_rfl
@[simp] theorem t210:T 210=⟨.other,1,8,[.nilFunc],[]⟩:=by kernel_rfl
@[simp] theorem Vf:T 211=⟨.other,1,8,[.nilFunc],[]⟩:=by kernel_rfl
@[simp] theorem t212:T 212=⟨.other,1,8,[.nilFunc],[]⟩:=by kernel_rfl
@[simp] theorem t213:T 213=⟨.other,1,8,[.nilFunc],[]⟩:=by kernel_rfl
@[simp] theorem Vg:T 214=⟨.other,1,8,[.nilFunc],[]⟩:=by kernel_rfl
@[simp] theorem Vh:T 215=⟨.arr 64 142,64,256,[.int .u32 0,.int .u32 0,.int .u32 0,.int .u32 0,.int .u32 0,.int .u32 0,.int .u32 0,.int .u32 0,.int .u32 0,.int .u32 0,.int .u32 0,.int .u32 0,.int .u32 0,.int .u32 0,.int .u32 0,.int .u32 0,.int .u32 0,.int .u32 0,.int .u32 0,.int .u32 0,.int .u32 0,.int .u32 0,.int .u32 0,.int .u32 0,.int .u32 0,.int .u32 0,.int .u32 0,.int .u32 0,.int .u32 0,.int .u32 0,.int .u32 0,.int .u32 0,.int .u32 0,.int .u32 0,.int .u32 0,.int .u32 0,.int .u32 0,.int .u32 0,.int .u32 0,.int .u32 0,.int .u32 0,.int .u32 0,.int .u32 0,.int .u32 0,.int .u32 0,.int .u32 0,.int .u32 0,.int .u32 0,.int .u32 0,.int .u32 0,.int .u32 0,.int .u32 0,.int .u32 0,.int .u32 0,.int .u32 0,.int .u32 0,.int .u32 0,.int .u32 0,.int .u32 0,.int .u32 0,.int .u32 0,.int .u32 0,.int .u32 0,.int .u32 0],[]⟩:=by kernel_rfl
@[simp] theorem Vi:T 216=⟨.other,1,8,[.nilFunc],[]⟩:=by kernel_rfl
@[simp] theorem Vj:T 217=⟨.arr 4 142,4,16,[.int .u32 0,.int .u32 0,.int .u32 0,.int .u32 0],[]⟩:=by kernel_rfl
@[simp] theorem Vk:T 218=⟨.slice 142,1,24,[.slice none 0 0],[]⟩:=by kernel_rfl
@[simp] theorem Vl:T 219=⟨.other,1,8,[.nilFunc],[]⟩:=by kernel_rfl
@[simp] theorem Vm:T 220=⟨.other,1,8,[.nilFunc],[]⟩:=by kernel_rfl
@[simp] theorem Vn:T 221=⟨.ptr 27,1,8,[.pointer none],[]⟩:=by kernel_rfl
@[simp] theorem Vo:T 222=⟨.other,1,8,[.nilFunc],[]⟩:=by kernel_rfl
@[simp] theorem Vp:T 223=⟨.other,1,8,[.nilFunc],[]⟩:=by kernel_rfl
@[simp] theorem Vq:T 224=⟨.other,1,8,[.nilFunc],[]⟩:=by kernel_rfl
@[simp] theorem Vr:T 225=⟨.other,1,8,[.nilFunc],[]⟩:=by kernel_rfl
@[simp] theorem Vs:T 226=⟨.other,1,8,[.nilFunc],[]⟩:=by kernel_rfl
@[simp] theorem Vt:T 227=⟨.int .u64,1,8,[.int .u64 0],[]⟩:=by kernel_rfl
@[simp] theorem Vu:T 228=⟨.other,1,8,[.nilFunc],[]⟩:=by kernel_rfl
@[simp] theorem Vv:T 229=⟨.other,1,8,[.nilFunc],[]⟩:=by kernel_rfl
@[simp] theorem Vw:T 230=⟨.other,1,8,[.nilFunc],[]⟩:=by kernel_rfl
@[simp] theorem Vx:T 231=⟨.ptr 3,1,8,[.pointer none],[]⟩:=by kernel_rfl
@[simp] theorem t232:T 232=⟨.other,1,8,[.nilFunc],[]⟩:=by kernel_rfl
@[simp] theorem t233:T 233=⟨.other,1,8,[.nilFunc],[]⟩:=by kernel_rfl
@[simp] theorem Vy:T 234=⟨.other,1,8,[.nilFunc],[]⟩:=by kernel_rfl
@[simp] theorem Vz:T 236=⟨.other,1,8,[.nilFunc],[]⟩:=by kernel_rfl
@[simp] theorem VA:T 237=⟨.int .i64,1,8,[.int .i64 0],[]⟩:=by kernel_rfl
@[simp] theorem VC:T 239=⟨.other,1,8,[.nilFunc],[]⟩:=by kernel_rfl
@[simp] theorem VD:T 240=⟨.ptr 262,1,8,[.pointer none],[]⟩:=by kernel_rfl
@[simp] theorem VE:T 241=⟨.other,1,8,[.nilFunc],[]⟩:=by kernel_rfl
@[simp] theorem VF:T 242=⟨.other,1,8,[.nilFunc],[]⟩:=by kernel_rfl
@[simp] theorem VG:T 243=⟨.slice 138,1,24,[.slice none 0 0],[]⟩:=by kernel_rfl
@[simp] theorem VH:T 244=⟨.struct [(0,9),(1,3)],2,24,[.string .empty,.int .i64 0],[.str,.int .i64]⟩:=by kernel_rfl
@[simp] theorem VI:T 245=⟨.struct [(0,9),(1,3)],2,24,[.string .empty,.int .i64 0],[.str,.int .i64]⟩:=by kernel_rfl
@[simp] theorem VJ:T 246=⟨.arr 6 245,12,144,[.string .empty,.int .i64 0,.string .empty,.int .i64 0,.string .empty,.int .i64 0,.string .empty,.int .i64 0,.string .empty,.int .i64 0,.string .empty,.int .i64 0],[.str,.int .i64,.str,.int .i64,.str,.int .i64,.str,.int .i64,.str,.int .i64,.str,.int .i64]⟩:=by kernel_rfl
@[simp] theorem VK:T 247=⟨.arr 24 5,24,24,[.int .u8 0,.int .u8 0,.int .u8 0,.int .u8 0,.int .u8 0,.int .u8 0,.int .u8 0,.int .u8 0,.int .u8 0,.int .u8 0,.int .u8 0,.int .u8 0,.int .u8 0,.int .u8 0,.int .u8 0,.int .u8 0,.int .u8 0,.int .u8 0,.int .u8 0,.int .u8 0,.int .u8 0,.int .u8 0,.int .u8 0,.int .u8 0],[]⟩:=by kernel_rfl
@[simp] theorem VL:T 248=⟨.other,1,8,[.nilFunc],[]⟩:=by kernel_rfl
@[simp] theorem VM:T 250=⟨.other,1,8,[.nilFunc],[]⟩:=by kernel_rfl
@[simp] theorem VN:T 251=⟨.ptr 227,1,8,[.pointer none],[]⟩:=by kernel_rfl
@[simp] theorem VO:T 253=⟨.other,1,8,[.nilFunc],[]⟩:=by kernel_rfl
@[simp] theorem VP:T 254=⟨.other,1,8,[.nilFunc],[]⟩:=by kernel_rfl
@[simp] theorem VQ:T 255=⟨.other,1,8,[.nilFunc],[]⟩:=by kernel_rfl
@[simp] theorem VR:T 256=⟨.slice 245,1,24,[.slice none 0 0],[]⟩:=by kernel_rfl
@[simp] theorem VS:T 257=⟨.other,1,8,[.nilFunc],[]⟩:=by kernel_rfl
@[simp] theorem VT:T 259=⟨.other,1,8,[.nilFunc],[]⟩:=by kernel_rfl
@[simp] theorem VU:T 260=⟨.other,1,8,[.nilFunc],[]⟩:=by kernel_rfl
@[simp] theorem VV:T 263=⟨.other,1,8,[.nilFunc],[]⟩:=by kernel_rfl
@[simp] theorem VW:T 264=⟨.other,1,8,[.nilFunc],[]⟩:=by kernel_rfl
@[simp] theorem VX:T 265=⟨.arr 20 145,20,160,[.int .u64 0,.int .u64 0,.int .u64 0,.int .u64 0,.int .u64 0,.int .u64 0,.int .u64 0,.int .u64 0,.int .u64 0,.int .u64 0,.int .u64 0,.int .u64 0,.int .u64 0,.int .u64 0,.int .u64 0,.int .u64 0,.int .u64 0,.int .u64 0,.int .u64 0,.int .u64 0],[]⟩:=by kernel_rfl
@[simp] theorem VY:T 266=⟨.arr 65 5,65,65,[.int .u8 0,.int .u8 0,.int .u8 0,.int .u8 0,.int .u8 0,.int .u8 0,.int .u8 0,.int .u8 0,.int .u8 0,.int .u8 0,.int .u8 0,.int .u8 0,.int .u8 0,.int .u8 0,.int .u8 0,.int .u8 0,.int .u8 0,.int .u8 0,.int .u8 0,.int .u8 0,.int .u8 0,.int .u8 0,.int .u8 0,.int .u8 0,.int .u8 0,.int .u8 0,.int .u8 0,.int .u8 0,.int .u8 0,.int .u8 0,.int .u8 0,.int .u8 0,.int .u8 0,.int .u8 0,.int .u8 0,.int .u8 0,.int .u8 0,.int .u8 0,.int .u8 0,.int .u8 0,.int .u8 0,.int .u8 0,.int .u8 0,.int .u8 0,.int .u8 0,.int .u8 0,.int .u8 0,.int .u8 0,.int .u8 0,.int .u8 0,.int .u8 0,.int .u8 0,.int .u8 0,.int .u8 0,.int .u8 0,.int .u8 0,.int .u8 0,.int .u8 0,.int .u8 0,.int .u8 0,.int .u8 0,.int .u8 0,.int .u8 0,.int .u8 0,.int .u8 0],[]⟩:=by kernel_rfl
@[simp] theorem VZ:T 268=⟨.other,1,8,[.nilFunc],[]⟩:=by kernel_rfl
@[simp] theorem Wa:T 269=⟨.other,1,8,[.nilFunc],[]⟩:=by kernel_rfl
@[simp] theorem Wc:T 270=⟨.other,1,8,[.nilFunc],[]⟩:=by kernel_rfl
@[simp] theorem Wd:T 271=⟨.other,1,8,[.nilFunc],[]⟩:=by kernel_rfl
@[simp] theorem We:T 272=⟨.ptr 5,1,8,[.pointer none],[]⟩:=by kernel_rfl
@[simp] theorem Wf:T 273=⟨.ptr 275,1,8,[.pointer none],[]⟩:=by kernel_rfl
@[simp] theorem Wg:T 274=⟨.struct [(0,9)],1,16,[.string .empty],[.str]⟩:=by kernel_rfl
@[simp] theorem Wh:T 275=⟨.struct [(0,9)],1,16,[.string .empty],[.str]⟩:=by kernel_rfl
@[simp] theorem Wi:T 281=⟨.int .u8,1,1,[.int .u8 0],[]⟩:=by kernel_rfl
@[simp] theorem Wj:T 282=⟨.int .u8,1,1,[.int .u8 0],[]⟩:=by kernel_rfl
@[simp] theorem Wk:T 283=⟨.other,1,8,[.nilFunc],[]⟩:=by kernel_rfl
@[simp] theorem Wl:T 284=⟨.int .i32,1,4,[.int .i32 0],[]⟩:=by kernel_rfl
@[simp] theorem Wm:T 285=⟨.int .i32,1,4,[.int .i32 0],[]⟩:=by kernel_rfl
@[simp] theorem Wn:T 286=⟨.struct [(0,12),(1,12),(2,142),(3,281),(4,5),(5,5),(6,282),(7,283),(8,272),(9,284),(10,285)],11,48,[.int .u64 0,.int .u64 0,.int .u32 0,.int .u8 0,.int .u8 0,.int .u8 0,.int .u8 0,.nilFunc,.pointer none,.int .i32 0,.int .i32 0],[]⟩:=by kernel_rfl
@[simp] theorem Wo:T 287=⟨.struct [(0,12),(1,12),(2,142),(3,281),(4,5),(5,5),(6,282),(7,283),(8,272),(9,284),(10,285)],11,48,[.int .u64 0,.int .u64 0,.int .u32 0,.int .u8 0,.int .u8 0,.int .u8 0,.int .u8 0,.nilFunc,.pointer none,.int .i32 0,.int .i32 0],[]⟩:=by kernel_rfl
end Go.Eng
namespace Go.Eng
section
variable{P:Program} {T:TypeId→lF} {N:Nat} {w0:iT} {X:Nat→Prop} {Q:LX→nC→lD→Prop} {env:nC} {H:lD}
theorem Ol(hT:mP P T)(hW:Ho T){id:Nat}{l:List Oper}(h:(nP P T N l (fun _=>none) env H).ok∧Q .normal (nP P T N l (fun _=>none) env H).env (nP P T N l (fun _=>none) env H).H):
 pS P N w0 X (.region id l.toArray false) Q env H:=Gg hT hW (fun _=>none) (fun _=>⟨rfl,fun _ h=>h⟩) h
theorem pS.ro(hT:mP P T)(hW:Ho T){id:Nat}{l:List Oper}(orc:Nat→Option sR)(h:(nP P T N l orc env H).ok∧Q .normal (nP P T N l orc env H).env (nP P T N l orc env H).H)
 (hdet:∀d,Jg (orc d):=by intro d;first|exact⟨rfl,fun _ h=>h⟩|(split<;>exact⟨rfl,fun _ h=>h⟩)):pS P N w0 X (.region id l.toArray false) Q env H:=Gg hT hW orc hdet h
theorem RP(hT:mP P T)(hW:Ho T){id:Nat}{l:List Oper}{y:Code}(h:(nP P T N l (fun _=>none) env H).ok∧tQ (pS P N w0 X y Q) Q .normal (nP P T N l (fun _=>none) env H).env (nP P T N l (fun _=>none) env H).H):
 pS P N w0 X (.seq (.region id l.toArray false) y) Q env H:=pS.seq (Ol hT hW h)
theorem cB(hT:mP P T)(hW:Ho T){id:Nat}{l:List Oper}{y:Code}(orc:Nat→Option sR)(h:(nP P T N l orc env H).ok∧tQ (pS P N w0 X y Q) Q .normal (nP P T N l orc env H).env (nP P T N l orc env H).H)
 (hdet:∀d,Jg (orc d):=by intro d;first|exact⟨rfl,fun _ h=>h⟩|(split<;>exact⟨rfl,fun _ h=>h⟩)):pS P N w0 X (.seq (.region id l.toArray false) y) Q env H:=pS.seq (pS.ro hT hW orc h hdet)
theorem aA{id:Nat}{l:List Oper}{y:Code}(h:(nP Go.Proofs.Tryz.prog Eng.T N l (fun _=>none) env H).ok∧tQ (pS Go.Proofs.Tryz.prog N w0 X y Q) Q .normal (nP Go.Proofs.Tryz.prog Eng.T N l (fun _=>none) env H).env (nP Go.Proofs.Tryz.prog Eng.T N l (fun _=>none) env H).H):
 pS Go.Proofs.Tryz.prog N w0 X (.seq (.region id l.toArray false) y) Q env H:=RP hT hW h
theorem aL{id:Nat}{l:List Oper}(h:(nP Go.Proofs.Tryz.prog Eng.T N l (fun _=>none) env H).ok∧Q .normal (nP Go.Proofs.Tryz.prog Eng.T N l (fun _=>none) env H).env (nP Go.Proofs.Tryz.prog Eng.T N l (fun _=>none) env H).H):
 pS Go.Proofs.Tryz.prog N w0 X (.region id l.toArray false) Q env H:=Ol hT hW h
end
end Go.Eng
namespace Go.Eng
open Go.Proofs
theorem bU:Tryz.prog.follows .mixedOrders=true:=by kernel_rfl
theorem sL(a b:Nm):(decide (a.who=b.who)&&decide (a.seq=b.seq))=decide (a=b):=by
 cases a;cases b;simp[Bool.decide_and]
theorem sM(a b:Df):(a.name==b.name&&a.text==b.text)=decide (a=b):=by
 cases a;cases b;simp[Bool.beq_eq_decide_eq]
attribute[local simp] nP lH gR bA oC gK gS pE cY bD pL.plain pL.cond pL.fail dU mN tQ nO gC kQ kW lR memless nD eV jD uG EJ gQ fJ strip pD eD mC bW
 qY fZ iR gT iQ pU lk cH dX bQ cA bY oL fE pY iU jF bS eW bN dM gM fL fM eI fN gX gY gZ fO eJ fP eL fQ hU hZ iC iD fR iG oY oJ mkAgg tP BO jN bB gN aW.live TK.isNone TK.agg TK.isBool TK.isStr TK.isStruct Op.operands Call.operands
 bF cV cO dF eP oK lN cN dN iO fA kY aQ frozen lS
 jT jU lU gV jW jX jY kD lV gW kF kG kH kJ sE mM oO oP oS oT oV kK jR gU fK Nm.d Df.d Ed.d yV yW mK yX jS sL sM dK dL
 yY yZ sF zA zB sG sH sI oW zC zD sJ
 bZ aZ dP mB dQ bT cI bP eZ uJ TK.isInt jV kE oQ iB gP dO eX eY gE fD gB mO sZ nU yU sD
 nS kX mX nR cS eF dY lJ jG jH iV tF iH dJ iI iJ cH kA kC oN iW iK kL iE iF fT
 cP gO TK.isPtr eR cE kM qB qO jZ kI oU hO iA fS
attribute[local simp] eM kN iL
section
attribute[local simp] pL.cond Nd.d_eq nd_t nd_dr nd_td ndsD
structure BC where
 b:Bool
theorem Qs{a b:Nat}:(if a<b then(b:Int)else(a:Int))=((max a b:Nat):Int):=by split<;>omega
theorem sU{x:Nd}{i:Nat}(hi:i<x.kids.length):weighN x.kids[i]<weighN x:=by
 have:=weigh_mem (List.getElem_mem hi)
 rw[weighN_eq x];omega
theorem pW(x:Nd):x.kids.length<weighN x:=by
 have:=weigh_len (l:=x.kids)
 rw[weighN_eq x];omega
theorem rM(n m:Int)(h1: -9223372036854775808≤n)(h2:n≤9223372036854775807)(hm:m≠0):Ok Tryz.prog 27 [aD n,aD m] ⟨.d (aD (fF n m)),true⟩:=by
 refine Ok.ret Tryz.func27 (by kernel_rfl) (c:=_) rfl Tryz.ntmps27 (by simp) Tryz.results27 (by intro _ h;cases h) fun w0 X hp=>?_
 refine aA ?_
 simp
 refine pS.seq ?_
 refine aA ?_
 simp
 refine aC ?_
 simp
 refine⟨fun h1=>?_,fun h1=>?_⟩
 ·refine aL ?_
  simp
  refine⟨by omega,?_⟩
  refine aA ?_
  simp
  refine⟨hm,?_⟩
  refine pS.ret ?_
  simp[fF,h1]
 ·refine pS.skip ?_
  simp
  refine aA ?_
  simp
  refine⟨hm,?_⟩
  refine pS.ret ?_
  have:¬n<0:=by omega
  simp[fF,this]
theorem Ro(l:List Int)(i m:Int)(hl:∀n∈l, -9223372036854775808≤n∧n≤9223372036854775807)(hm:m≠0):Ok Tryz.prog 63 [.sl (l.map aD),aD i,aD m] ⟨.d (aD (eN l i m)),true⟩:=by
 refine Ok.ret Tryz.func63 (by kernel_rfl) (c:=_) rfl Tryz.ntmps63 (by simp) Tryz.results63 (by intro _ h;cases h) fun w0 X hp=>?_
 refine aA ?_
 simp
 refine pS.seq ?_
 refine pS.seq ?_
 refine pS.len (t:=0) rfl fun hlen=>?_
 simp at hlen
 refine aL ?_
 simp
 refine aC ?_
 simp
 refine⟨fun h1=>?_,fun h1 h2=>?_⟩
 ·refine aA ?_
  simp
  refine pS.ret ?_
  simp[eN,h1]
 ·obtain⟨k,rfl⟩:=Int.eq_ofNat_of_zero_le h1
  have hi':k<l.length:=by omega
  refine pS.skip ?_
  simp
  refine cB hT hW (fun|20=>some<| .plain ⟨.d (aD (fF l[k] m)),true⟩|_=>none) ?_
  simp[h2,hi']
  refine⟨rM _ _ (hl _ (List.getElem_mem hi')).1 (hl _ (List.getElem_mem hi')).2 hm,?_⟩
  refine pS.ret ?_
  simp[eN,hi']
  omega
theorem JG(x:Nd)(hw:weighN x≤1000000000)(ih:∀y∈x.kids,weighN y≤1000000000→Ok Tryz.prog 120 [y.d] ⟨.d (aD (depthN y)),true⟩):Ok Tryz.prog 120 [x.d] ⟨.d (aD (depthN x)),true⟩:=by
 refine Ok.ret Tryz.func120 (by kernel_rfl) (c:=_) rfl Tryz.ntmps120 (by simp) Tryz.results120 (by intro _ h;cases h) fun w0 X hp=>?_
 refine aA ?_
 simp
 refine aA ?_
 simp
 refine pS.seq ?_
 refine aA ?_
 simp
 refine pS.block ?_
 refine bX (ι:=Nat) (fun i=>aY [(3,.d (aD (depthL (x.kids.take i)))),(7,.d (ndsD x.kids)),(8,.d (aD x.kids.length)),(9,.d (aD i))]) (fun i=>aK []) (fun i=>i≤x.kids.length) (fun i=>x.kids.length-i) 0 (aB [3,7,8,9] [] (by decide) (by decide) (by simp[hp]) (by simp[depthL]) (by simp)) (Nat.zero_le _) fun i hi3=>?_
 refine aA ?_
 simp
 refine pS.seq ?_
 refine aC ?_
 simp
 refine⟨fun h3=>?_,fun h3=>?_⟩
 ·refine pS.skip ?_
  simp
  refine pS.seq ?_
  refine pS.block ?_
  refine pS.seq ?_
  have hi:i<x.kids.length:=by omega
  refine aL ?_
  simp[hi]
  have hk:=ih _ (List.getElem_mem hi) (by have:=sU hi;omega)
  refine pS.ro hT hW (fun|15=>some<| .plain ⟨.d (aD (depthN x.kids[i])),true⟩|_=>none) ?_
  simp
  refine⟨by simpa using hk,?_⟩
  have:=pW x
  refine aL ?_
  simp
  refine⟨by omega,?_⟩
  refine KN.mk (i+1) (aB [3,7,8,9] [] (by decide) (by decide) (by simp[hp]) (by simp[depthL_succ hi,Qs]) (by simp)) ?_ ?_
  ·omega
  ·omega
 ·refine pS.exit ?_
  simp
  refine pS.seq ?_
  have hi:i=x.kids.length:=by omega
  subst hi
  rw[List.take_length]
  have h1:=depth_size x
  have h2:=size_weigh x
  have h3:=depthN_eq x
  refine aL ?_
  simp
  refine⟨by omega,?_⟩
  refine pS.ret ?_
  simp[h3]
theorem Md(x:Nd)(hw:weighN x≤1000000000)(ih:∀y∈x.kids,weighN y≤1000000000→Ok Tryz.prog 60 [y.d] ⟨.d (aD (sizeN y)),true⟩):Ok Tryz.prog 60 [x.d] ⟨.d (aD (sizeN x)),true⟩:=by
 refine Ok.ret Tryz.func60 (by kernel_rfl) (c:=_) rfl Tryz.ntmps60 (by simp) Tryz.results60 (by intro _ h;cases h) fun w0 X hp=>?_
 refine aA ?_
 simp
 refine aA ?_
 simp
 refine pS.seq ?_
 refine aA ?_
 simp
 refine pS.block ?_
 refine bX (ι:=Nat) (fun i=>aY [(3,.d (aD ((1+sizeL (x.kids.take i):Nat):Int))),(7,.d (ndsD x.kids)),(8,.d (aD x.kids.length)),(9,.d (aD i))]) (fun i=>aK []) (fun i=>i≤x.kids.length) (fun i=>x.kids.length-i) 0 (aB [3,7,8,9] [] (by decide) (by decide) (by simp[hp]) (by simp[sizeL]) (by simp)) (Nat.zero_le _) fun i hi3=>?_
 refine aA ?_
 simp
 refine pS.seq ?_
 refine aC ?_
 simp
 refine⟨fun h3=>?_,fun h3=>?_⟩
 ·refine pS.skip ?_
  simp
  refine pS.seq ?_
  refine pS.block ?_
  refine pS.seq ?_
  have hi:i<x.kids.length:=by omega
  refine aL ?_
  simp[hi]
  have hk:=ih _ (List.getElem_mem hi) (by have:=sU hi;omega)
  have q1:=sizeL_take_le (l:=x.kids) i
  have q2:=size_weigh x
  have q3:=size_weigh x.kids[i]
  have q4:=sU hi
  rw[sizeN_eq x]at q2
  refine pS.ro hT hW (fun|15=>some<| .plain ⟨.d (aD (sizeN x.kids[i])),true⟩|_=>none) ?_
  simp
  refine⟨⟨by simpa using hk,by omega⟩,?_⟩
  have:=pW x
  refine aL ?_
  simp
  refine⟨by omega,?_⟩
  refine KN.mk (i+1) (aB [3,7,8,9] [] (by decide) (by decide) (by simp[hp]) (by simp[sizeL_succ hi,Int.add_assoc]) (by simp)) ?_ ?_
  ·omega
  ·omega
 ·refine pS.exit ?_
  simp
  refine aA ?_
  simp
  refine pS.ret ?_
  have hi:i=x.kids.length:=by omega
  subst hi
  rw[List.take_length,sizeN_eq x]
  simp[Int.add_comm]
theorem Om(x:Nd)(hw:weighN x≤1000000000):Ok Tryz.prog 120 [x.d] ⟨.d (aD (depthN x)),true⟩:=by
 revert hw
 exact mS (p:=fun x=>weighN x≤1000000000→Ok Tryz.prog 120 [x.d] ⟨.d (aD (depthN x)),true⟩) (fun k t n ks ih hw=>JG _ hw ih) x
theorem Qt(x:Nd)(hw:weighN x≤1000000000):Ok Tryz.prog 60 [x.d] ⟨.d (aD (sizeN x)),true⟩:=by
 revert hw
 exact mS (p:=fun x=>weighN x≤1000000000→Ok Tryz.prog 60 [x.d] ⟨.d (aD (sizeN x)),true⟩) (fun k t n ks ih hw=>Md _ hw ih) x
end
open Go.Proofs
section
attribute[local simp] pL.cond Nd.d_eq nd_t nd_dr nd_td ndsD
def vX{α:Type}(p:α→Bool)(l:List α):Int:=match l.findIdx? p with|some i=>i|none=> -1
theorem Bu{α:Type}{p:α→Bool}{l:List α}{i:Nat}(h:l.findIdx? p=some i):vX p l=i:=by simp[vX,h]
theorem Bv{α:Type}{p:α→Bool}{l:List α}(h:l.findIdx? p=none):vX p l= -1:=by simp[vX,h]
theorem Ck{α:Type}{p:α→Bool}{l:List α}:decide (0≤vX p l)=l.any p:=by
 unfold vX
 split
 ·rename_i i hi
  obtain⟨h1,h2,_⟩:=List.findIdx?_eq_some_iff_getElem.1 hi
  have:l.any p=true:=RN h1 h2
  rw[this];simp
 ·rename_i hi
  rw[List.findIdx?_eq_none_iff]at hi
  have:l.any p=false:=by rw[List.any_eq_false];intro x hx;rw[hi x hx];simp
  rw[this];simp
theorem GA{α:Type}{p:α→Bool}{l:List α}:0≤vX p l↔l.any p=true:=by
 rw[←Ck];simp
theorem uI(l:List aN)(n:aN):Ok Tryz.prog 111 [mK l,.str n] ⟨.d (aD (vX (fun x=>decide (n=x)) l)),true⟩:=by
 refine Ok.ret Tryz.func111 (by kernel_rfl) (c:=_) rfl Tryz.ntmps111 (by simp) Tryz.results111 (by intro _ h;cases h) fun w0 X hp=>?_
 refine pS.len (t:=0) rfl fun hlen=>?_
 simp at hlen
 refine aA ?_
 simp
 refine pS.seq ?_
 refine aA ?_
 simp
 refine pS.block ?_
 refine bX (ι:=Nat) (fun i=>aY [(0,.d (mK l)),(1,.d (.str n)),(7,.d (aD l.length)),(8,.d (aD i))]) (fun i=>aK []) (fun i=>i≤l.length∧Qp (fun x=>decide (n=x)) l i) (fun i=>l.length-i) 0 (aB [0,1,7,8] [] (by decide) (by decide) (by simp[hp]) (by simp) (by simp)) (⟨Nat.zero_le _,Qp.zero⟩) fun i hi2=>?_
 refine aA ?_
 simp
 refine pS.seq ?_
 refine aC ?_
 simp
 refine⟨fun h2=>?_,fun h2=>?_⟩
 ·refine pS.skip ?_
  simp
  refine pS.seq ?_
  refine pS.block ?_
  refine aA ?_
  simp
  refine aA ?_
  simp[h2]
  refine aC ?_
  simp
  refine⟨fun h4=>?_,fun h4=>?_⟩
  ·refine aA ?_
   simp
   refine pS.ret ?_
   simp[Bu (hi2.2.found h2 (by simpa using h4))]
  ·refine pS.skip ?_
   simp
   refine aL ?_
   simp
   refine⟨by omega,?_⟩
   refine KN.mk (i+1) (aB [0,1,7,8] [] (by decide) (by decide) (by simp[hp]) (by simp) (by simp)) ?_ ?_
   ·exact⟨h2,hi2.2.succ h2 (by simpa using h4)⟩
   ·omega
 ·refine pS.exit ?_
  simp
  refine aA ?_
  simp
  refine pS.ret ?_
  simp[Bv (hi2.2.none (by omega))]
theorem On(l:List aN)(n:aN):Ok Tryz.prog 185 [mK l,.str n] ⟨.d (.bool (decide (n∈l))),true⟩:=by
 refine Ok.ret Tryz.func185 (by kernel_rfl) (c:=_) rfl Tryz.ntmps185 (by simp) Tryz.results185 (by intro _ h;cases h) fun w0 X hp=>?_
 refine aA ?_
 simp
 refine cB hT hW (fun|7=>some<| .plain ⟨.d (aD (vX (fun x=>decide (n=x)) l)),true⟩|_=>none) ?_
 simp
 refine⟨uI l n,?_⟩
 refine pS.ret ?_
 simp[GA]
theorem JH(l:List Nd)(p:Nd→Bool)(g:FuncId)(cs:List DV)(hg:∀x∈l,Ok Tryz.prog g (x.d::cs) ⟨.d (.bool (p x)),true⟩):Ok Tryz.prog 189 [ndsD l,.fn g cs] ⟨.d (aD (vX p l)),true⟩:=by
 refine Ok.ret Tryz.func189 (by kernel_rfl) (c:=_) rfl Tryz.ntmps189 (by simp) Tryz.results189 (by intro _ h;cases h) fun w0 X hp=>?_
 refine pS.len (t:=0) rfl fun hlen=>?_
 simp at hlen
 refine aA ?_
 simp
 refine pS.seq ?_
 refine aA ?_
 simp
 refine pS.block ?_
 refine bX (ι:=Nat) (fun i=>aY [(0,.d (ndsD l)),(1,.d (.fn g cs)),(7,.d (aD l.length)),(8,.d (aD i))]) (fun i=>aK []) (fun i=>i≤l.length∧Qp p l i) (fun i=>l.length-i) 0 (aB [0,1,7,8] [] (by decide) (by decide) (by simp[hp]) (by simp) (by simp)) (⟨Nat.zero_le _,Qp.zero⟩) fun i hi2=>?_
 refine aA ?_
 simp
 refine pS.seq ?_
 refine aC ?_
 simp
 refine⟨fun h2=>?_,fun h2=>?_⟩
 ·refine pS.skip ?_
  simp
  refine pS.seq ?_
  refine pS.block ?_
  refine aA ?_
  simp
  refine cB hT hW (fun|16=>some<| .plain ⟨.d (.bool (p l[i])),true⟩|_=>none) ?_
  simp[h2]
  refine⟨by simpa using hg l[i] (List.getElem_mem h2),?_⟩
  refine aC ?_
  simp
  refine⟨fun h4=>?_,fun h4=>?_⟩
  ·refine aA ?_
   simp
   refine pS.ret ?_
   simp[Bu (hi2.2.found h2 h4)]
  ·refine pS.skip ?_
   simp
   refine aL ?_
   simp
   refine⟨by omega,?_⟩
   refine KN.mk (i+1) (aB [0,1,7,8] [] (by decide) (by decide) (by simp[hp]) (by simp) (by simp)) ?_ ?_
   ·exact⟨h2,hi2.2.succ h2 h4⟩
   ·omega
 ·refine pS.exit ?_
  simp
  refine aA ?_
  simp
  refine pS.ret ?_
  simp[Bv (hi2.2.none (by omega))]
theorem HV(l:List Nd)(p:Nd→Bool)(g:FuncId)(cs:List DV)(hg:∀x∈l,Ok Tryz.prog g (x.d::cs) ⟨.d (.bool (p x)),true⟩):Ok Tryz.prog 138 [ndsD l,.fn g cs] ⟨.d (.bool (l.any p)),true⟩:=by
 refine Ok.ret Tryz.func138 (by kernel_rfl) (c:=_) rfl Tryz.ntmps138 (by simp) Tryz.results138 (by intro _ h;cases h) fun w0 X hp=>?_
 refine aA ?_
 simp
 refine cB hT hW (fun|7=>some<| .plain ⟨.d (aD (vX p l)),true⟩|_=>none) ?_
 simp
 refine⟨by simpa using JH l p g cs hg,?_⟩
 refine pS.ret ?_
 simp[←Ck]
theorem Me(k:Int):Ok Tryz.prog 216 [aD k] ⟨.d (.bool (cG k)),true⟩:=by
 refine Ok.ret Tryz.func216 (by kernel_rfl) (c:=_) rfl Tryz.ntmps216 (by simp) Tryz.results216 (by intro _ h;cases h) fun w0 X hp=>?_
 refine aA ?_
 simp
 refine aA ?_
 simp
 refine pS.ret ?_
 simp[cG]
theorem Mf(k:Int):Ok Tryz.prog 215 [aD k] ⟨.d (.bool (tY k)),true⟩:=by
 refine Ok.ret Tryz.func215 (by kernel_rfl) (c:=_) rfl Tryz.ntmps215 (by simp) Tryz.results215 (by intro _ h;cases h) fun w0 X hp=>?_
 refine aA ?_
 simp
 refine aA ?_
 simp
 refine pS.ret ?_
 simp[tY]
theorem tI(k:Int):Ok Tryz.prog 218 [aD k] ⟨.d (.bool (cL k)),true⟩:=by
 refine Ok.ret Tryz.func218 (by kernel_rfl) (c:=_) rfl Tryz.ntmps218 (by simp) Tryz.results218 (by intro _ h;cases h) fun w0 X hp=>?_
 refine aA ?_
 simp
 refine aA ?_
 simp
 refine pS.ret ?_
 simp[cL]
theorem rN(k:Int):Ok Tryz.prog 219 [aD k] ⟨.d (.bool (aH k)),true⟩:=by
 refine Ok.ret Tryz.func219 (by kernel_rfl) (c:=_) rfl Tryz.ntmps219 (by simp) Tryz.results219 (by intro _ h;cases h) fun w0 X hp=>?_
 refine aA ?_
 simp
 refine aA ?_
 simp
 refine pS.ret ?_
 simp[aH]
theorem JI(k:Int):Ok Tryz.prog 220 [aD k] ⟨.d (.bool (gG k)),true⟩:=by
 refine Ok.ret Tryz.func220 (by kernel_rfl) (c:=_) rfl Tryz.ntmps220 (by simp) Tryz.results220 (by intro _ h;cases h) fun w0 X hp=>?_
 refine aA ?_
 simp
 refine aA ?_
 simp
 refine pS.ret ?_
 simp[gG]
theorem JJ(k:Int):Ok Tryz.prog 221 [aD k] ⟨.d (.bool (pF k)),true⟩:=by
 refine Ok.ret Tryz.func221 (by kernel_rfl) (c:=_) rfl Tryz.ntmps221 (by simp) Tryz.results221 (by intro _ h;cases h) fun w0 X hp=>?_
 refine aA ?_
 simp
 refine aA ?_
 simp
 refine pS.ret ?_
 simp[pF]
theorem Qu(x:Nd)(g:FuncId)(f:Int→Bool)(hg:∀k,Ok Tryz.prog g [aD k] ⟨.d (.bool (f k)),true⟩):Ok Tryz.prog 251 [x.d,.ro [.fn g []]] ⟨.d (.bool (!f x.kind)),true⟩:=by
 refine Ok.ret Tryz.func251 (by kernel_rfl) (c:=_) rfl Tryz.ntmps251 (by simp) Tryz.results251 (by intro _ h;cases h) fun w0 X hp=>?_
 refine aA ?_
 simp
 refine cB hT hW (fun|7=>some<| .plain ⟨.d (.bool (f x.kind)),true⟩|_=>none) ?_
 simp
 refine⟨hg _,?_⟩
 refine pS.ret ?_
 simp
theorem Oo(x:Nd)(g:FuncId)(f:Int→Bool)(hg:∀k,Ok Tryz.prog g [aD k] ⟨.d (.bool (f k)),true⟩):Ok Tryz.prog 214 [x.d,.fn g []] ⟨.d (.bool (x.kids.all fun y=>f y.kind)),true⟩:=by
 refine Ok.ret Tryz.func214 (by kernel_rfl) (c:=_) rfl Tryz.ntmps214 (by simp) Tryz.results214 (by intro _ h;cases h) fun w0 X hp=>?_
 refine aA ?_
 simp
 refine cB hT hW (fun|8=>some<| .plain ⟨.d (.bool (x.kids.any fun y=> !f y.kind)),true⟩|_=>none) ?_
 simp
 refine⟨by simpa using HV x.kids (fun y=> !f y.kind) _ _ fun y _=>Qu y g f hg,?_⟩
 refine pS.ret ?_
 simp[List.all_eq_not_any_not]
theorem Fp:∀{ks:List Nd} {fs:List (Int→Bool)},ks.length≠fs.length→cT ks fs=false
 |[],[],h=>absurd rfl h
 |[],_::_,_=>rfl
 |_::_,[],_=>rfl
 |x::r,f::l,h=>by rw[cT,Fp (ks:=r) (fs:=l) (by simpa using h),Bool.and_false]
theorem DQ:∀{ks:List Nd} {fs:List (Int→Bool)},ks.length=fs.length→(cT ks fs=true↔∀(i:Nat) (h1:i<ks.length) (h2:i<fs.length),fs[i] ks[i].kind=true)
 |[],[],_=>⟨fun _ i h=>by simp at h,fun _=>rfl⟩
 |[],_::_,h=>by simp at h
 |_::_,[],h=>by simp at h
 |x::r,f::l,h=>by
  rw[cT,Bool.and_eq_true,DQ (ks:=r) (fs:=l) (by simpa using h)]
  constructor
  ·rintro⟨h1,h2⟩ i hi hj
   cases i with
   |zero=>exact h1
   |succ i=>exact h2 i (by simpa using hi) (by simpa using hj)
  ·intro h
   exact⟨h 0 (by simp) (by simp),fun i hi hj=>h (i+1) (by simpa using hi) (by simpa using hj)⟩
structure Qv(gs:List FuncId)(fs:List (Int→Bool)):Prop where
 len:gs.length=fs.length
 ok:∀(i:Nat) (h1:i<gs.length) (h2:i<fs.length) (k:Int),Ok Tryz.prog gs[i] [aD k] ⟨.d (.bool (fs[i] k)),true⟩
def Mg(g:FuncId):DV:=.fn g []
theorem sO(x:Nd)(gs:List FuncId)(fs:List (Int→Bool))(hg:Qv gs fs)(hgl:gs.length≤100):Ok Tryz.prog 217 [x.d,.sl (gs.map Mg)] ⟨.d (.bool (cT x.kids fs)),true⟩:=by
 refine Ok.ret Tryz.func217 (by kernel_rfl) (c:=_) rfl Tryz.ntmps217 (by simp) Tryz.results217 (by intro _ h;cases h) fun w0 X hp=>?_
 have hgf:=hg.len
 refine aA ?_
 simp
 refine pS.seq ?_
 refine aA ?_
 simp
 refine aC ?_
 simp
 refine⟨fun h1=>?_,fun h1=>?_⟩
 ·refine aA ?_
  simp
  refine pS.ret ?_
  simp
  exact Fp (by omega)
 ·refine pS.skip ?_
  simp
  refine pS.seq ?_
  refine pS.seq ?_
  have hlen:x.kids.length=fs.length:=by omega
  have hkl:x.kids.length≤100:=by omega
  refine aL ?_
  simp
  refine pS.block ?_
  refine bX (ι:=Nat) (fun i=>aY [(1,.d (.sl (gs.map Mg))),(14,.d (ndsD x.kids)),(15,.d (aD x.kids.length)),(16,.d (aD i))]) (fun i=>aK []) (fun i=>i≤x.kids.length∧∀(j:Nat) (h1:j<x.kids.length) (h2:j<fs.length),j<i→fs[j] x.kids[j].kind=true) (fun i=>x.kids.length-i) 0 (aB [1,14,15,16] [] (by decide) (by decide) (by simp[hp]) (by simp) (by simp)) (⟨Nat.zero_le _,fun j _ _ h=>absurd h (Nat.not_lt_zero _)⟩) fun i hi4=>?_
  refine aA ?_
  simp
  refine pS.seq ?_
  refine aC ?_
  simp
  refine⟨fun h4=>?_,fun h4=>?_⟩
  ·refine pS.skip ?_
   simp
   refine pS.seq ?_
   refine pS.block ?_
   refine pS.seq ?_
   have hi:i<x.kids.length:=by omega
   have hif:i<fs.length:=by omega
   have hig:i<gs.length:=by omega
   refine aL ?_
   simp[hi]
   refine pS.seq ?_
   have hk:=hg.ok i hig hif x.kids[i].kind
   refine aI hT hW bU (lk [[],[],[0,1],[0,1,2],[],[4],[0,1,2,3,4,5],[0,1,2,3,4,5,6]]) (lk [[],[],[],[],[],[],[],[]]) (lk [[],[],[],[],[],[],[27],[]]) (by kernel_rfl) (fun|27=>some<| .plain ⟨.d (.bool (fs[i] x.kids[i].kind)),true⟩|_=>none) (by intro d;first|exact⟨rfl,fun _ h=>h⟩|(split<;>exact⟨rfl,fun _ h=>h⟩)) ?_
   simp[hig,Mg,cA]
   refine⟨hk,?_⟩
   refine aC ?_
   simp
   refine⟨fun h6=>?_,fun h6=>?_⟩
   ·refine aA ?_
    simp
    refine pS.ret ?_
    simp
    rw[←Bool.not_eq_true,DQ hlen]
    intro h
    have:=h i hi hif
    simp[h6]at this
   ·refine pS.skip ?_
    simp
    refine aL ?_
    simp
    refine⟨by omega,?_⟩
    refine KN.mk (i+1) (aB [1,14,15,16] [] (by decide) (by decide) (by simp[hp]) (by simp) (by simp)) ?_ ?_
    ·refine⟨by omega,fun j q1 q2 q3=>?_⟩
     rcases Nat.lt_or_ge j i with q|q
     ·exact hi4.2 j q1 q2 q
     ·have:j=i:=by omega
      subst this
      simpa using h6
    ·omega
  ·refine pS.exit ?_
   simp
   refine aA ?_
   simp
   refine pS.ret ?_
   simp
   rw[DQ hlen]
   exact fun j q1 q2=>hi4.2 j q1 q2 (by omega)
end
open Go.Proofs
section
attribute[local simp] pL.cond Nd.d_eq nd_t nd_dr nd_td ndsD
theorem Qv.nil:Qv [] []:=⟨rfl,fun i h=>by simp at h⟩
theorem Qv.cons{g:FuncId}{f:Int→Bool}{gs:List FuncId}{fs:List (Int→Bool)}(h:∀k,Ok Tryz.prog g [aD k] ⟨.d (.bool (f k)),true⟩)(hs:Qv gs fs):Qv (g::gs) (f::fs):=
 ⟨by simp[hs.len],fun i h1 h2 k=>by
  cases i with
  |zero=>exact h k
  |succ i=>exact hs.ok i (by simpa using h1) (by simpa using h2) k⟩
theorem Mh(x:Nd):Ok Tryz.prog 164 [x.d] ⟨.d (.bool (fW x)),true⟩:=by
 refine Ok.ret Tryz.func164 (by kernel_rfl) (c:=_) rfl Tryz.ntmps164 (by simp) Tryz.results164 (by intro _ h;cases h) fun w0 X hp=>?_
 refine aA ?_
 simp
 refine pS.seq ?_
 refine aA ?_
 simp
 refine pS.block ?_
 refine aA ?_
 simp
 refine aC ?_
 simp
 refine⟨fun h2=>?_,fun h2=>?_⟩
 ·refine pS.seq ?_
  have hk3:=Oo x 215 tY fun k=>Mf k
  refine pS.ro hT hW (fun|8=>some<| .plain ⟨.d (.bool (x.kids.all fun y=>tY y.kind)),true⟩|_=>none) ?_
  simp
  refine⟨by simpa using hk3,?_⟩
  refine pS.ret ?_
  simp
  unfold fW cU
  repeat(first|rw[if_pos (by omega)]|rw[if_neg (by omega)])
  try simp[hq]
 ·refine aA ?_
  simp
  refine aC ?_
  simp
  refine⟨fun h4=>?_,fun h4=>?_⟩
  ·refine pS.seq ?_
   have hk5:=Oo x 216 cG fun k=>Me k
   refine pS.ro hT hW (fun|12=>some<| .plain ⟨.d (.bool (x.kids.all fun y=>cG y.kind)),true⟩|_=>none) ?_
   simp
   refine⟨by simpa using hk5,?_⟩
   refine pS.ret ?_
   simp
   unfold fW cU
   repeat(first|rw[if_pos (by omega)]|rw[if_neg (by omega)])
   try simp[hq]
  ·refine aT (ι:=BC) (fun⟨b⟩=>aY [(1,.bx 1 0),(4,.d (aD x.kind)),(13,.d (.bool b))]) (fun⟨b⟩=>aK [(1,.box false [.d (aD x.kind),.d (.str x.text),.d (aD x.n),.d (ndsD x.kids)])]) (fun⟨b⟩=>b=true↔(x.kind=5∨x.kind=6)) ?_ fun⟨b⟩ hc8=>?_
   ·refine aA ?_
    simp
    refine aC ?_
    simp
    refine⟨fun h6=>?_,fun h6=>?_⟩
    ·refine pS.skip ?_
     simp
     refine Qo.mk ⟨decide (x.kind=5)⟩ (aB [1,4,13] [(1,1)] (by decide) (by decide) (by simp[hp]) (by simp) (by simp)) ?_
     simp[h6]
    ·refine aL ?_
     simp
     refine Qo.mk ⟨decide (x.kind=6)⟩ (aB [1,4,13] [(1,1)] (by decide) (by decide) (by simp[hp]) (by simp) (by simp)) ?_
     simp only[decide_eq_true_eq];omega
   ·refine aC ?_
    simp
    refine⟨fun h8=>?_,fun h8=>?_⟩
    ·have q8:=hc8.1 h8
     refine pS.seq ?_
     have hk8:=sO x [218] [cL] (Qv.cons (fun k=>tI k) Qv.nil) (by decide)
     refine pS.ro hT hW (fun|18=>some<| .plain ⟨.d (.bool (cT x.kids [cL])),true⟩|_=>none) ?_
     simp
     refine⟨by simpa [Mg]using hk8,?_⟩
     refine pS.ret ?_
     simp
     unfold fW cU
     repeat(first|rw[if_pos (by omega)]|rw[if_neg (by omega)])
     try simp[hq]
    ·have q8:¬(x.kind=5∨x.kind=6):=fun q=>by simp[hc8.2 q]at h8
     refine aT (ι:=BC) (fun⟨b⟩=>aY [(1,.bx 1 0),(4,.d (aD x.kind)),(19,.d (.bool b))]) (fun⟨b⟩=>aK [(1,.box false [.d (aD x.kind),.d (.str x.text),.d (aD x.n),.d (ndsD x.kids)])]) (fun⟨b⟩=>b=true↔(x.kind=9∨x.kind=15∨x.kind=22∨x.kind=24)) ?_ fun⟨b⟩ hc13=>?_
     ·refine aA ?_
      simp
      refine aC ?_
      simp
      refine⟨fun h9=>?_,fun h9=>?_⟩
      ·refine pS.skip ?_
       simp
       refine Qo.mk ⟨decide (x.kind=9)⟩ (aB [1,4,19] [(1,1)] (by decide) (by decide) (by simp[hp]) (by simp) (by simp)) ?_
       simp[h9]
      ·refine aA ?_
       simp
       refine aC ?_
       simp
       refine⟨fun h10=>?_,fun h10=>?_⟩
       ·refine pS.skip ?_
        simp
        refine Qo.mk ⟨decide (x.kind=15)⟩ (aB [1,4,19] [(1,1)] (by decide) (by decide) (by simp[hp]) (by simp) (by simp)) ?_
        simp[h10]
       ·refine aA ?_
        simp
        refine aC ?_
        simp
        refine⟨fun h11=>?_,fun h11=>?_⟩
        ·refine pS.skip ?_
         simp
         refine Qo.mk ⟨decide (x.kind=22)⟩ (aB [1,4,19] [(1,1)] (by decide) (by decide) (by simp[hp]) (by simp) (by simp)) ?_
         simp[h11]
        ·refine aL ?_
         simp
         refine Qo.mk ⟨decide (x.kind=24)⟩ (aB [1,4,19] [(1,1)] (by decide) (by decide) (by simp[hp]) (by simp) (by simp)) ?_
         simp only[decide_eq_true_eq];omega
     ·refine aC ?_
      simp
      refine⟨fun h13=>?_,fun h13=>?_⟩
      ·have q13:=hc13.1 h13
       refine pS.seq ?_
       have hk13:=sO x [219] [aH] (Qv.cons (fun k=>rN k) Qv.nil) (by decide)
       refine pS.ro hT hW (fun|26=>some<| .plain ⟨.d (.bool (cT x.kids [aH])),true⟩|_=>none) ?_
       simp
       refine⟨by simpa [Mg]using hk13,?_⟩
       refine pS.ret ?_
       simp
       unfold fW cU
       repeat(first|rw[if_pos (by omega)]|rw[if_neg (by omega)])
       try simp[hq]
      ·have q13:¬(x.kind=9∨x.kind=15∨x.kind=22∨x.kind=24):=fun q=>by simp[hc13.2 q]at h13
       refine aA ?_
       simp
       refine aC ?_
       simp
       refine⟨fun h14=>?_,fun h14=>?_⟩
       ·refine pS.seq ?_
        have hk15:=sO x [220,219] [gG,aH] (Qv.cons (fun k=>JI k) (Qv.cons (fun k=>rN k) Qv.nil)) (by decide)
        refine pS.ro hT hW (fun|31=>some<| .plain ⟨.d (.bool (cT x.kids [gG,aH])),true⟩|_=>none) ?_
        simp
        refine⟨⟨by decide,by simpa [Mg]using hk15⟩,?_⟩
        refine pS.ret ?_
        simp
        unfold fW cU
        repeat(first|rw[if_pos (by omega)]|rw[if_neg (by omega)])
        try simp[hq]
       ·refine aA ?_
        simp
        refine aC ?_
        simp
        refine⟨fun h16=>?_,fun h16=>?_⟩
        ·refine pS.seq ?_
         have hk17:=sO x [219,218] [aH,cL] (Qv.cons (fun k=>rN k) (Qv.cons (fun k=>tI k) Qv.nil)) (by decide)
         have hl17:=sO x [219,218,218] [aH,cL,cL] (Qv.cons (fun k=>rN k) (Qv.cons (fun k=>tI k) (Qv.cons (fun k=>tI k) Qv.nil))) (by decide)
         cases hq:cT x.kids [aH,cL]<;>rw[hq]at hk17
         ·refine pS.ro hT hW (fun|36=>some<| .plain ⟨.d (.bool (decide (0=1))),true⟩|40=>some<| .plain ⟨.d (.bool (cT x.kids [aH,cL,cL])),true⟩|_=>none) ?_
          simp
          refine⟨⟨⟨⟨by decide,by simpa [Mg]using hk17⟩,by decide⟩,by simpa [Mg]using hl17⟩,?_⟩
          refine pS.ret ?_
          simp
          unfold fW cU
          repeat(first|rw[if_pos (by omega)]|rw[if_neg (by omega)])
          try simp[hq]
         ·refine pS.ro hT hW (fun|36=>some<| .plain ⟨.d (.bool (decide (1=1))),true⟩|40=>some<| .plain ⟨.d (.bool (cT x.kids [aH,cL,cL])),true⟩|_=>none) ?_
          simp
          refine⟨⟨by decide,by simpa [Mg]using hk17⟩,?_⟩
          refine pS.ret ?_
          simp
          unfold fW cU
          repeat(first|rw[if_pos (by omega)]|rw[if_neg (by omega)])
          try simp[hq]
        ·refine aA ?_
         simp
         refine aC ?_
         simp
         refine⟨fun h18=>?_,fun h18=>?_⟩
         ·refine pS.seq ?_
          have hk19:=sO x [219,218] [aH,cL] (Qv.cons (fun k=>rN k) (Qv.cons (fun k=>tI k) Qv.nil)) (by decide)
          refine pS.ro hT hW (fun|46=>some<| .plain ⟨.d (.bool (cT x.kids [aH,cL])),true⟩|_=>none) ?_
          simp
          refine⟨⟨by decide,by simpa [Mg]using hk19⟩,?_⟩
          refine pS.ret ?_
          simp
          unfold fW cU
          repeat(first|rw[if_pos (by omega)]|rw[if_neg (by omega)])
          try simp[hq]
         ·refine aT (ι:=BC) (fun⟨b⟩=>aY [(1,.bx 1 0),(4,.d (aD x.kind)),(47,.d (.bool b))]) (fun⟨b⟩=>aK [(1,.box false [.d (aD x.kind),.d (.str x.text),.d (aD x.n),.d (ndsD x.kids)])]) (fun⟨b⟩=>b=true↔(x.kind=16∨x.kind=23)) ?_ fun⟨b⟩ hc22=>?_
          ·refine aA ?_
           simp
           refine aC ?_
           simp
           refine⟨fun h20=>?_,fun h20=>?_⟩
           ·refine pS.skip ?_
            simp
            refine Qo.mk ⟨decide (x.kind=16)⟩ (aB [1,4,47] [(1,1)] (by decide) (by decide) (by simp[hp]) (by simp) (by simp)) ?_
            simp[h20]
           ·refine aL ?_
            simp
            refine Qo.mk ⟨decide (x.kind=23)⟩ (aB [1,4,47] [(1,1)] (by decide) (by decide) (by simp[hp]) (by simp) (by simp)) ?_
            simp only[decide_eq_true_eq];omega
          ·refine aC ?_
           simp
           refine⟨fun h22=>?_,fun h22=>?_⟩
           ·have q22:=hc22.1 h22
            refine pS.seq ?_
            have hk22:=sO x [221] [pF] (Qv.cons (fun k=>JJ k) Qv.nil) (by decide)
            refine pS.ro hT hW (fun|52=>some<| .plain ⟨.d (.bool (cT x.kids [pF])),true⟩|_=>none) ?_
            simp
            refine⟨by simpa [Mg]using hk22,?_⟩
            refine pS.ret ?_
            simp
            unfold fW cU
            repeat(first|rw[if_pos (by omega)]|rw[if_neg (by omega)])
            try simp[hq]
           ·have q22:¬(x.kind=16∨x.kind=23):=fun q=>by simp[hc22.2 q]at h22
            refine aT (ι:=BC) (fun⟨b⟩=>aY [(1,.bx 1 0),(4,.d (aD x.kind)),(53,.d (.bool b))]) (fun⟨b⟩=>aK [(1,.box false [.d (aD x.kind),.d (.str x.text),.d (aD x.n),.d (ndsD x.kids)])]) (fun⟨b⟩=>b=true↔(x.kind=26∨x.kind=27∨x.kind=28∨x.kind=29∨x.kind=30∨x.kind=31)) ?_ fun⟨b⟩ hc29=>?_
            ·refine aA ?_
             simp
             refine aC ?_
             simp
             refine⟨fun h23=>?_,fun h23=>?_⟩
             ·refine pS.skip ?_
              simp
              refine Qo.mk ⟨decide (x.kind=26)⟩ (aB [1,4,53] [(1,1)] (by decide) (by decide) (by simp[hp]) (by simp) (by simp)) ?_
              simp[h23]
             ·refine aA ?_
              simp
              refine aC ?_
              simp
              refine⟨fun h24=>?_,fun h24=>?_⟩
              ·refine pS.skip ?_
               simp
               refine Qo.mk ⟨decide (x.kind=27)⟩ (aB [1,4,53] [(1,1)] (by decide) (by decide) (by simp[hp]) (by simp) (by simp)) ?_
               simp[h24]
              ·refine aA ?_
               simp
               refine aC ?_
               simp
               refine⟨fun h25=>?_,fun h25=>?_⟩
               ·refine pS.skip ?_
                simp
                refine Qo.mk ⟨decide (x.kind=28)⟩ (aB [1,4,53] [(1,1)] (by decide) (by decide) (by simp[hp]) (by simp) (by simp)) ?_
                simp[h25]
               ·refine aA ?_
                simp
                refine aC ?_
                simp
                refine⟨fun h26=>?_,fun h26=>?_⟩
                ·refine pS.skip ?_
                 simp
                 refine Qo.mk ⟨decide (x.kind=29)⟩ (aB [1,4,53] [(1,1)] (by decide) (by decide) (by simp[hp]) (by simp) (by simp)) ?_
                 simp[h26]
                ·refine aA ?_
                 simp
                 refine aC ?_
                 simp
                 refine⟨fun h27=>?_,fun h27=>?_⟩
                 ·refine pS.skip ?_
                  simp
                  refine Qo.mk ⟨decide (x.kind=30)⟩ (aB [1,4,53] [(1,1)] (by decide) (by decide) (by simp[hp]) (by simp) (by simp)) ?_
                  simp[h27]
                 ·refine aL ?_
                  simp
                  refine Qo.mk ⟨decide (x.kind=31)⟩ (aB [1,4,53] [(1,1)] (by decide) (by decide) (by simp[hp]) (by simp) (by simp)) ?_
                  simp only[decide_eq_true_eq];omega
            ·refine aC ?_
             simp
             refine⟨fun h29=>?_,fun h29=>?_⟩
             ·have q29:=hc29.1 h29
              refine pS.seq ?_
              have hk29:=sO x [219,219] [aH,aH] (Qv.cons (fun k=>rN k) (Qv.cons (fun k=>rN k) Qv.nil)) (by decide)
              refine pS.ro hT hW (fun|62=>some<| .plain ⟨.d (.bool (cT x.kids [aH,aH])),true⟩|_=>none) ?_
              simp
              refine⟨⟨by decide,by simpa [Mg]using hk29⟩,?_⟩
              refine pS.ret ?_
              simp
              unfold fW cU
              repeat(first|rw[if_pos (by omega)]|rw[if_neg (by omega)])
              try simp[hq]
             ·have q29:¬(x.kind=26∨x.kind=27∨x.kind=28∨x.kind=29∨x.kind=30∨x.kind=31):=fun q=>by simp[hc29.2 q]at h29
              refine pS.skip ?_
              simp
              refine pS.seq ?_
              have hk30:=sO x [] [] Qv.nil (by decide)
              refine pS.ro hT hW (fun|64=>some<| .plain ⟨.d (.bool (cT x.kids [])),true⟩|_=>none) ?_
              simp
              refine⟨by simpa [Mg]using hk30,?_⟩
              refine pS.ret ?_
              simp
              unfold fW cU
              repeat(first|rw[if_pos (by omega)]|rw[if_neg (by omega)])
              try simp[hq]
end
open Go.Proofs
section
attribute[local simp] pL.cond Nd.d_eq nd_t nd_dr nd_td ndsD
theorem Bw:BN.length=12:=rfl
theorem Oq{k:Int}(h0:26≤k)(h1:k≤31):List.take 2 (List.drop ((k-26).toNat*2) BN)=[.str (mD k),aD (bM k)]:=by
 have:k=26∨k=27∨k=28∨k=29∨k=30∨k=31:=by omega
 rcases this with rfl|rfl|rfl|rfl|rfl|rfl<;>rfl
theorem Mi{k:Int}(h0:26≤k)(h1:k≤31):BN[(k-26).toNat*2+1]?.getD default=aD (bM k):=by
 have:k=26∨k=27∨k=28∨k=29∨k=30∨k=31:=by omega
 rcases this with rfl|rfl|rfl|rfl|rfl|rfl<;>rfl
theorem Ot(x:Nd):Ok Tryz.prog 274 [x.d] ⟨.d (aD (lvlN x.kind)),true⟩:=by
 refine Ok.ret Tryz.func274 (by kernel_rfl) (c:=_) rfl Tryz.ntmps274 (by simp) Tryz.results274 (by intro _ h;cases h) fun w0 X hp=>?_
 refine aA ?_
 simp
 refine pS.seq ?_
 refine aA ?_
 simp
 refine aC ?_
 simp
 refine⟨fun g1 g2=>?_,fun g=>?_⟩
 ·refine pS.seq ?_
  have q1:=Mi g1 g2
  have q2:=Bw
  refine aL ?_
  simp[q1]
  refine⟨⟨⟨by omega,by omega⟩,by omega⟩,?_⟩
  refine pS.ret ?_
  simp[lvlN,g1,g2]
 ·refine pS.skip ?_
  simp
  refine aA ?_
  simp
  refine pS.ret ?_
  simp
  rw[lvlN,if_neg (by omega)]
theorem KS(n:Nat):(oX n).length≤3:=by unfold oX;split<;>(try split)<;>simp
theorem lX(n:Int):(fC n).length≤4:=by
 have h1:=KS n.natAbs
 have h2:=KS n.toNat
 unfold fC;split
 ·simp only[List.length_cons];omega
 ·omega
theorem qH(c:Bool)(t:aN):(paren c t).length≤t.length+2:=by cases c<;>simp[paren]
theorem DR(k:Int)(h:26≤k∧k≤31):(mD k).length≤2:=by
 have:k=26∨k=27∨k=28∨k=29∨k=30∨k=31:=by omega
 rcases this with rfl|rfl|rfl|rfl|rfl|rfl<;>decide
theorem jB(x:Nd):aG x=true→aH x.kind=true→(exprT x).length≤8*weighN x:=by
 refine mS (p:=fun x=>aG x=true→aH x.kind=true→(exprT x).length≤8*weighN x) (fun k t n ks ih=>?_) x
 intro hr he
 have hw:weighN (.mk k t n ks)=weighL ks+t.length+1:=by rw[weighN]
 rcases mI hr he with⟨_,_,_,h4⟩|⟨h1,_⟩|h1|⟨h1,_⟩|⟨h1,h2⟩|⟨k',a,b,h1,h2,h3,h4,h5,h6,h7⟩
 ·rw[h4]
  have:=lX (Nd.mk k t n ks).n
  simp only[exprT,if_true,weighN];omega
 ·rw[h1];simp[exprT,weighN];omega
 ·rw[h1];simp[exprT,weighN,jJ];omega
 ·rw[h1];simp[exprT,weighN];omega
 ·rw[h1];simp[exprT,weighN];omega
 ·injection h3 with i1 i2 i3 i4
  subst i1;subst i2;subst i3;subst i4
  have ha:=ih a (by simp) h4 h5
  have hb:=ih b (by simp) h6 h7
  have e1:=qH (decide (lvlN a.kind<(if bM k=1 then 2 else bM k))) (exprT a)
  have e2:=qH (decide (lvlN b.kind<bM k+1)) (exprT b)
  have e3:=DR k ⟨h1,h2⟩
  rw[yG h1 h2,hw]
  simp only[weighL,List.length_append,List.length_cons,List.length_nil]
  omega
end
end Go.Eng
namespace Go.Proofs
open Go.Shelf
def Tryz.itoaLay_ren:Go.Shelf.Ren:=⟨fun|171=>123|243=>168|246=>224|283=>253|284=>254|285=>255|286=>256|129=>180|317=>275|318=>276|319=>277|320=>278|337=>288|338=>289|n=>n,fun|3=>3|9=>9|2=>2|4=>4|171=>247|0=>0|53=>145|37=>75|5=>5|173=>249|212=>265|51=>142|20=>20|213=>266|46=>165|232=>151|233=>144|n=>n,fun|17=>8|18=>9|19=>10|n=>n⟩
theorem Tryz.itoaLay:Go.Proofs.LaysM.n171 Tryz.prog Tryz.itoaLay_ren:={
 mixed:=by kernel_rfl,
 f129:=Tryz.func180.trans (congrArg some (by kernel_rfl)),
 f171:=Tryz.func123.trans (congrArg some (by kernel_rfl)),
 f243:=Tryz.func168.trans (congrArg some (by kernel_rfl)),
 f246:=Tryz.func224.trans (congrArg some (by kernel_rfl)),
 f283:=Tryz.func253.trans (congrArg some (by kernel_rfl)),
 f284:=Tryz.func254.trans (congrArg some (by kernel_rfl)),
 f285:=Tryz.func255.trans (congrArg some (by kernel_rfl)),
 f286:=Tryz.func256.trans (congrArg some (by kernel_rfl)),
 f317:=Tryz.func275.trans (congrArg some (by kernel_rfl)),
 f318:=Tryz.func276.trans (congrArg some (by kernel_rfl)),
 f319:=Tryz.func277.trans (congrArg some (by kernel_rfl)),
 f320:=Tryz.func278.trans (congrArg some (by kernel_rfl)),
 f337:=Tryz.func288.trans (congrArg some (by kernel_rfl)),
 f338:=Tryz.func289.trans (congrArg some (by kernel_rfl)),
 t0:=Tryz.underlying0,
 a0:=Tryz.isAgg0,
 z0:=Tryz.sizeOf0,
 v0:=Tryz.zeroValue0,
 t2:=Tryz.underlying2,
 a2:=Tryz.isAgg2,
 z2:=Tryz.sizeOf2,
 v2:=Tryz.zeroValue2,
 t3:=Tryz.underlying3,
 a3:=Tryz.isAgg3,
 z3:=Tryz.sizeOf3,
 v3:=Tryz.zeroValue3,
 t4:=Tryz.underlying4,
 a4:=Tryz.isAgg4,
 z4:=Tryz.sizeOf4,
 v4:=Tryz.zeroValue4,
 t5:=Tryz.underlying5,
 a5:=Tryz.isAgg5,
 z5:=Tryz.sizeOf5,
 v5:=Tryz.zeroValue5,
 t9:=Tryz.underlying9,
 a9:=Tryz.isAgg9,
 z9:=Tryz.sizeOf9,
 v9:=Tryz.zeroValue9,
 t20:=Tryz.underlying20,
 a20:=Tryz.isAgg20,
 z20:=Tryz.sizeOf20,
 v20:=Tryz.zeroValue20,
 t37:=Tryz.underlying75,
 a37:=Tryz.isAgg75,
 z37:=Tryz.sizeOf75,
 v37:=Tryz.zeroValue75,
 t46:=Tryz.underlying165,
 a46:=Tryz.isAgg165,
 z46:=Tryz.sizeOf165,
 v46:=Tryz.zeroValue165,
 t51:=Tryz.underlying142,
 a51:=Tryz.isAgg142,
 z51:=Tryz.sizeOf142,
 v51:=Tryz.zeroValue142,
 t53:=Tryz.underlying145,
 a53:=Tryz.isAgg145,
 z53:=Tryz.sizeOf145,
 v53:=Tryz.zeroValue145,
 t171:=Tryz.underlying247,
 a171:=Tryz.isAgg247,
 z171:=Tryz.sizeOf247,
 v171:=Tryz.zeroValue247,
 t173:=Tryz.underlying249,
 a173:=Tryz.isAgg249,
 z173:=Tryz.sizeOf249,
 v173:=Tryz.zeroValue249,
 t212:=Tryz.underlying265,
 a212:=Tryz.isAgg265,
 z212:=Tryz.sizeOf265,
 v212:=Tryz.zeroValue265,
 t213:=Tryz.underlying266,
 a213:=Tryz.isAgg266,
 z213:=Tryz.sizeOf266,
 t232:=Tryz.underlying151,
 a232:=Tryz.isAgg151,
 z232:=Tryz.sizeOf151,
 v232:=Tryz.zeroValue151,
 t233:=Tryz.underlying144,
 a233:=Tryz.isAgg144,
 z233:=Tryz.sizeOf144,
 v233:=Tryz.zeroValue144,
 g17:=by kernel_rfl,
 g18:=by kernel_rfl,
 g19:=by kernel_rfl,
 i0:=by kernel_rfl,
 i2:=by kernel_rfl,
 i3:=by kernel_rfl,
 i4:=by kernel_rfl,
 i5:=by kernel_rfl,
 i9:=by kernel_rfl,
 i20:=by kernel_rfl,
 i37:=by kernel_rfl,
 i46:=by kernel_rfl,
 i51:=by kernel_rfl,
 i53:=by kernel_rfl,
 i171:=by kernel_rfl,
 i173:=by kernel_rfl,
 i212:=by kernel_rfl,
 i232:=by kernel_rfl,
 i233:=by kernel_rfl,
 m17:=by kernel_rfl,
 m18:=by kernel_rfl,
 m19:=by kernel_rfl}
end Go.Proofs
namespace Go.Eng
open Go.Proofs
theorem KT{n:Nat}(h:n<1000):Lib.decDigits n=oX n:=by
 unfold oX
 by_cases h1:n<10
 ·rw[if_pos h1,Lib.decDigits,dif_pos h1]
 ·rw[if_neg h1,Lib.decDigits,dif_neg h1]
  by_cases h2:n<100
  ·rw[if_pos h2,Lib.decDigits,dif_pos (by omega)];rfl
  ·rw[if_neg h2,Lib.decDigits,dif_neg (by omega),Lib.decDigits,dif_pos (by omega),Nat.div_div_eq_div_mul];rfl
theorem Ou{n:Int}(h0: -999≤n)(h1:n≤999):Lib.itoa n=fC n:=by
 unfold Lib.itoa fC
 split
 ·rw[KT (by omega)]
 ·rw[KT (by omega)]
theorem Mj:KH=Lib.pow10Tab.map fun z=>DV.int .u64 z:=by kernel_rfl
theorem Qw{w:World}{X:Nat→Prop}(h:CI w X){name:String}(hg:Tryz.prog.globalNamed name=some 8):Lib.TabIs Tryz.prog w name .u64 Lib.pow10Tab:=by
 obtain⟨h1,arr,t,fz,h2,h3⟩:=h 8 KH rfl
 unfold Lib.TabIs World.var?
 rw[hg]
 simp only[Option.bind_some,h2,Option.some.injEq]
 rw[Mj]at h1 h3
 cases h1 with
 |ro _ _ _ us hb hul hu1 hlt hcell hp=>
  apply Array.ext_getElem?
  intro i
  by_cases hi:i<arr.size
  ·have hz:i<Lib.pow10Tab.length:=by rw[h3,List.length_map]at hi;exact hi
   have hu:i<us.length:=by rw[hul,List.length_map];exact hz
   have hc:=hcell i us[i] (List.getElem?_eq_getElem hu)
   have hq:=hp i (.int .u64 Lib.pow10Tab[i]) us[i] (by simp[hz]) (List.getElem?_eq_getElem hu)
   generalize us[i]=u at hc hq
   cases hq
   rw[Nat.zero_add]at hc
   unfold World.cell? at hc
   simp[h2]at hc
   rw[hc]
   simp[hz]
  ·rw[Array.getElem?_eq_none (by omega)]
   rw[h3,List.length_map]at hi
   rw[List.getElem?_toArray,List.getElem?_eq_none (by simpa using hi)]
theorem AG(n:Int)(h0: -999≤n)(h1:n≤999):Ok Tryz.prog 123 [aD n] ⟨.d (.str (fC n)),true⟩:=by
 refine⟨⟨_,Tryz.func123,by kernel_rfl,rfl⟩,fun w X vs hX hr=>?_⟩
 match vs,hr.1 with
 |[v],_=>
  have h:=hr.2 0 _ _ rfl rfl
  cases h
  refine(Go.Proofs.Any.strconv_Itoa Tryz.itoaLay n (by omega) (by omega) w (Qw hX.2 (by kernel_rfl))).mono ?_
  rintro e w' ⟨rfl,k,os,rfl⟩
  refine⟨_,rfl,⟨rfl,rfl,rfl,?_,fun j hj=>Go.Sort.heap_grow_old (w.drewN k) os hj,Nat.le_add_right _ _⟩,none,?_⟩
  ·simp[Sort.grow]
  ·rw[Ou h0 h1];exact .str _
end Go.Eng
namespace Go.Eng
open Go.Proofs
attribute[local simp] nP lH gR bA oC gK gS pE cY bD pL.plain pL.cond pL.fail dU mN tQ nO gC kQ kW lR memless nD eV jD uG EJ gQ fJ strip pD eD mC bW
 qY fZ iR gT iQ pU lk cH dX bQ cA bY oL fE pY iU jF bS eW bN dM gM fL fM eI fN gX gY gZ fO eJ fP eL fQ hU hZ iC iD fR iG oY oJ mkAgg tP BO jN bB gN aW.live TK.isNone TK.agg TK.isBool TK.isStr TK.isStruct Op.operands Call.operands
 bF cV cO dF eP oK lN cN dN iO fA kY aQ frozen lS
 jT jU lU gV jW jX jY kD lV gW kF kG kH kJ sE mM oO oP oS oT oV kK jR gU fK Nm.d Df.d Ed.d yV yW mK yX jS sL sM dK dL
 yY yZ sF zA zB sG sH sI oW zC zD sJ
 bZ aZ dP mB dQ bT cI bP eZ uJ TK.isInt jV kE oQ iB gP dO eX eY gE fD gB mO sZ nU yU sD
 nS kX mX nR cS eF dY lJ jG jH iV tF iH dJ iI iJ cH kA kC oN iW iK kL iE iF fT
 cP gO TK.isPtr eR cE kM qB qO jZ kI oU hO iA fS
attribute[local simp] eM kN iL
section
attribute[local simp] pL.cond Nd.d_eq nd_t nd_dr nd_td ndsD
theorem Ov{x:Nd}(h:x.kind=32):exprT x=fC x.n:=by cases x;simp only[fB]at h;subst h;unfold exprT;simp
theorem Ow{x:Nd}(h:x.kind=33):exprT x=36::x.text:=by cases x;simp only[fB]at h;subst h;unfold exprT;simp
theorem Ox{x:Nd}(h:x.kind=36):exprT x=jJ:=by cases x;simp only[fB]at h;subst h;unfold exprT;simp
theorem Oy{x:Nd}(h:x.kind=34∨x.kind=35):exprT x=x.text:=by cases x;simp only[fB]at h;rcases h with rfl|rfl<;>(unfold exprT;simp)
theorem DS{x:Nd}(hr:aG x=true)(he:aH x.kind=true):(26≤x.kind∧x.kind≤36)∧(x.kind=32→exprT x=fC x.n∧0≤x.n∧x.n≤999)∧(x.kind=33→exprT x=36::x.text)∧(x.kind=36→exprT x=jJ)∧
 (x.kind=34∨x.kind=35→exprT x=x.text)∧(x.kind≤31→∃a b,x.kids=[a,b]∧aG a=true∧aH a.kind=true∧aG b=true∧aH b.kind=true∧
  exprT x=paren (decide (lvlN a.kind<(if bM x.kind=1 then 2 else bM x.kind))) (exprT a)++32::(mD x.kind++32::paren (decide (lvlN b.kind<bM x.kind+1)) (exprT b))):=by
 refine⟨Cg.1 he,fun h=>⟨Ov h,?_⟩,Ow,Ox,Oy,fun h=>?_⟩
 ·obtain⟨k,t,n,ks⟩:=x
  have h:k=32:=h
  subst h
  obtain⟨_,_,_,w1,w2,_⟩:=right_mk.1 hr
  exact⟨w1,w2⟩
 ·rcases mI hr he with⟨h1,_⟩|⟨h1,_⟩|h1|⟨h1,_⟩|⟨h1,_⟩|⟨k',a,b,h1,h2,h3,h4,h5,h6,h7⟩
  ·omega
  ·rw[h1]at h;exact absurd h (by simp)
  ·rw[h1]at h;exact absurd h (by simp)
  ·rw[h1]at h;exact absurd h (by simp)
  ·rw[h1]at h;exact absurd h (by simp)
  ·rw[h3];exact⟨a,b,rfl,h4,h5,h6,h7,yG h1 h2⟩
theorem Fq(x:Nd)(least:Int)(hx:Ok Tryz.prog 223 [x.d] ⟨.d (.str (exprT x)),true⟩)(hl:(exprT x).length≤10000000000):Ok Tryz.prog 252 [x.d,aD least] ⟨.d (.str (paren (decide (lvlN x.kind<least)) (exprT x))),true⟩:=by
 refine Ok.ret Tryz.func252 (by kernel_rfl) (c:=_) rfl Tryz.ntmps252 (by simp) Tryz.results252 (by intro _ h;cases h) fun w0 X hp=>?_
 refine aA ?_
 simp
 refine pS.seq ?_
 refine pS.seq ?_
 have hv:=Ot x
 refine pS.ro hT hW (fun|6=>some<| .plain ⟨.d (aD (lvlN x.kind)),true⟩|_=>none) ?_
 simp
 refine⟨by simpa using hv,?_⟩
 refine aC ?_
 simp
 refine⟨fun h1=>?_,fun h1=>?_⟩
 ·refine cB hT hW (fun|10=>some<| .plain ⟨.d (.str (exprT x)),true⟩|_=>none) ?_
  simp
  refine⟨⟨⟨by simpa using hx,by omega⟩,by omega⟩,?_⟩
  refine pS.ret ?_
  simp[paren,h1]
 ·refine pS.skip ?_
  simp
  refine cB hT hW (fun|14=>some<| .plain ⟨.d (.str (exprT x)),true⟩|_=>none) ?_
  simp
  refine⟨by simpa using hx,?_⟩
  refine pS.ret ?_
  simp[paren]
  intro h
  omega
theorem Mk(x:Nd)(hr:aG x=true)(he:aH x.kind=true)(hw:weighN x≤1000000000)(ih:∀y∈x.kids,aG y=true→aH y.kind=true→weighN y≤1000000000→Ok Tryz.prog 223 [y.d] ⟨.d (.str (exprT y)),true⟩):Ok Tryz.prog 223 [x.d] ⟨.d (.str (exprT x)),true⟩:=by
 refine Ok.ret Tryz.func223 (by kernel_rfl) (c:=_) rfl Tryz.ntmps223 (by simp) Tryz.results223 (by intro _ h;cases h) fun w0 X hp=>?_
 obtain⟨f0,f32,f33,f36,f34,f26⟩:=DS hr he
 have hwx:=weighN_eq x
 refine aA ?_
 simp
 refine pS.seq ?_
 refine aA ?_
 simp
 refine pS.block ?_
 refine aA ?_
 simp
 refine aC ?_
 simp
 refine⟨fun h2=>?_,fun h2=>?_⟩
 ·refine pS.seq ?_
  obtain⟨q1,q2,q3⟩:=f32 h2
  have hi:=AG x.n (by omega) q3
  refine pS.ro hT hW (fun|11=>some<| .plain ⟨.d (.str (fC x.n)),true⟩|_=>none) ?_
  simp
  refine⟨hi,?_⟩
  refine pS.ret ?_
  simp[q1]
 ·refine aA ?_
  simp
  refine aC ?_
  simp
  refine⟨fun h4=>?_,fun h4=>?_⟩
  ·refine aA ?_
   simp
   refine⟨by omega,?_⟩
   refine pS.ret ?_
   simp[f33 h4]
  ·refine aA ?_
   simp
   refine aC ?_
   simp
   refine⟨fun h6=>?_,fun h6=>?_⟩
   ·refine aA ?_
    simp
    refine pS.ret ?_
    simp[f36 h6,jJ]
   ·refine aT (ι:=BC) (fun⟨b⟩=>aY [(1,.bx 1 0),(19,.d (.bool b))]) (fun⟨b⟩=>aK [(1,.box false [.d (aD x.kind),.d (.str x.text),.d (aD x.n),.d (ndsD x.kids)])]) (fun⟨b⟩=>b=true↔(x.kind=34∨x.kind=35)) ?_ fun⟨b⟩ hc10=>?_
    ·refine aA ?_
     simp
     refine aC ?_
     simp
     refine⟨fun h8=>?_,fun h8=>?_⟩
     ·refine pS.skip ?_
      simp
      refine Qo.mk ⟨decide (x.kind=34)⟩ (aB [1,19] [(1,1)] (by decide) (by decide) (by simp[hp]) (by simp) (by simp)) ?_
      simp[h8]
     ·refine aL ?_
      simp
      refine Qo.mk ⟨decide (x.kind=35)⟩ (aB [1,19] [(1,1)] (by decide) (by decide) (by simp[hp]) (by simp) (by simp)) ?_
      simp only[decide_eq_true_eq];omega
    ·refine aC ?_
     simp
     refine⟨fun h10=>?_,fun h10=>?_⟩
     ·have q10:=hc10.1 h10
      refine aA ?_
      simp
      refine pS.ret ?_
      simp[f34 q10]
     ·have q10:¬(x.kind=34∨x.kind=35):=fun q=>by simp[hc10.2 q]at h10
      refine pS.skip ?_
      simp
      refine pS.seq ?_
      have hk31:x.kind≤31:=by omega
      obtain⟨a,b',hks,ra,ea,rb,eb,hTx⟩:=f26 hk31
      have q1:=Oq (k:=x.kind) f0.1 hk31
      have q2:=Bw
      obtain⟨lv,hlv⟩:∃lv:Int,lv=if bM x.kind=1 then 2 else bM x.kind:=⟨_,rfl⟩
      rw[←hlv]at hTx
      refine aL ?_
      simp[q1]
      refine⟨⟨⟨by omega,by omega⟩,by omega⟩,?_⟩
      refine aA ?_
      simp
      refine aT (ι:=Unit) (fun i=>aY [(1,.bx 1 0),(3,.bx 3 0),(4,.d (aD lv))]) (fun i=>aK [(1,.box false [.d (aD x.kind),.d (.str x.text),.d (aD x.n),.d (ndsD x.kids)]),(3,.box false [.d (.str (mD x.kind)),.d (aD (bM x.kind))])]) (fun i=>True) ?_ fun i hc15=>?_
      ·refine aA ?_
       simp
       refine aC ?_
       simp
       refine⟨fun h13=>?_,fun h13=>?_⟩
       ·refine aL ?_
        simp
        exact(aB [1,3,4] [(1,1),(3,3)] (by decide) (by decide) (by simp[hp]) (by simp[hlv,h13]) (by simp))
       ·refine pS.skip ?_
        simp
        exact(aB [1,3,4] [(1,1),(3,3)] (by decide) (by decide) (by simp[hp]) (by simp[hlv,h13]) (by simp))
      ·refine pS.seq ?_
       rw[hks]at hwx ih
       simp only[weighL]at hwx
       have la:=jB a ra ea
       have lb:=jB b' rb eb
       have pa:=qH (decide (lvlN a.kind<lv)) (exprT a)
       have pb:=qH (decide (lvlN b'.kind<bM x.kind+1)) (exprT b')
       have sl:=DR x.kind ⟨f0.1,hk31⟩
       have ka:=Fq a lv (ih a (by simp) ra ea (by omega)) (by omega)
       have kb:=Fq b' (bM x.kind+1) (ih b' (by simp) rb eb (by omega)) (by omega)
       have lvb:=(Fl f0.1 hk31).2.1
       refine aI hT hW bU (lk [[],[0],[0,1],[0,1,2],[],[0,1,2,3,4],[0,1,2,3,4,5],[],[7],[0,1,2,3,4,5,6,7,8],[0,1,2,3,4,5,6,7,8,9],[],[11],[11,12],[11,12,13],[],[15],[15,16],[0,1,2,3,4,5,11,12,13,14,15,16,17],[0,1,2,3,4,5,6,7,8,9,10,11,12,13,14,15,16,17,18],[0,1,2,3,4,5,6,7,8,9,10,11,12,13,14,15,16,17,18,19]]) (lk [[],[],[],[],[],[],[51],[38,51],[38,51],[51],[51],[38],[38],[38],[38],[38],[38],[38],[],[],[]]) (lk [[],[],[],[],[],[38],[],[],[],[],[],[],[],[],[],[],[],[],[51],[],[]]) (by kernel_rfl) (fun|38=>some<| .plain ⟨.d (.str (paren (decide (lvlN a.kind<lv)) (exprT a))),true⟩|51=>some<| .plain ⟨.d (.str (paren (decide (lvlN b'.kind<bM x.kind+1)) (exprT b'))),true⟩|_=>none) (by intro d;first|exact⟨rfl,fun _ h=>h⟩|(split<;>exact⟨rfl,fun _ h=>h⟩)) ?_
       simp[hks]
       refine⟨⟨⟨⟨⟨⟨⟨by simpa using ka,by omega⟩,by omega⟩,by omega⟩,by omega⟩,by simpa using kb⟩,by omega⟩,?_⟩
       refine pS.ret ?_
       simp[hTx]
theorem AH(x:Nd):aG x=true→aH x.kind=true→weighN x≤1000000000→Ok Tryz.prog 223 [x.d] ⟨.d (.str (exprT x)),true⟩:=
 mS (p:=fun x=>aG x=true→aH x.kind=true→weighN x≤1000000000→Ok Tryz.prog 223 [x.d] ⟨.d (.str (exprT x)),true⟩) (fun _ _ _ _ ih hr he hw=>Mk _ hr he hw ih) x
end
open Go.Proofs
section
attribute[local simp] pL.cond Nd.d_eq nd_t nd_dr nd_td ndsD
theorem Oz:zG=cZ.map DV.str:=rfl
theorem sV:zG.length=26:=rfl
theorem AI{k:Int}(h0:0≤k)(h1:k<26):zG[k.toNat]?.getD default=.str (bC k):=by
 have hk:k.toNat<cZ.length:=by rw[Bk];omega
 rw[Oz,List.getElem?_map,List.getElem?_eq_getElem hk]
 simp[bC,List.getD_eq_getElem?_getD,hk]
theorem xH(k:Int):(bC k).length≤7:=by
 unfold bC
 rw[List.getD_eq_getElem?_getD]
 cases e:cZ[k.toNat]? with
 |none=>simp
 |some w=>
  have:=List.mem_of_getElem? e
  have h:∀w∈cZ,w.length≤7:=by decide
  exact h w this
theorem pI:∀(a b:List Nd),stmtsT (a++b)=stmtsT a++stmtsT b
 |[],b=>by simp[stmtsT]
 |x::a,b=>by simp[stmtsT,pI a b]
theorem HW{l:List Nd}{i:Nat}(hi:i<l.length):stmtsT (l.take (i+1))=stmtsT (l.take i)++(stmtT l[i]++[32]):=by
 rw[←List.take_append_getElem hi,pI];simp[stmtsT]
theorem JK{l:List Nd}{i:Nat}(hi:i<l.length):withE (l.take (i+1))=withE (l.take i)++32::exprT l[i]:=by
 unfold withE
 rw[←List.take_append_getElem hi,List.flatMap_append];simp
theorem Bx{l:List Nd}(h:∀e∈l,aG e=true∧aH e.kind=true):(withE l).length≤9*weighL l:=by
 induction l with
 |nil=>simp[withE]
 |cons a r ih=>
  have h1:=ih fun y hy=>h y (List.mem_cons_of_mem _ hy)
  have h2:=jB a (h a (by simp)).1 (h a (by simp)).2
  have h3:1≤weighN a:=by rw[weighN_eq];omega
  have e:withE (a::r)=32::exprT a++withE r:=by simp[withE]
  rw[e,weighL]
  simp only[List.length_append,List.length_cons]
  omega
def OA(t e:aN):aN:=36::t++32::61::32::(e++[59])
def OB(p e:aN):aN:=p++32::61::32::(e++[59])
def PU(w e b:aN):aN:=w++32::(e++32::b)
def HX(a c:aN):aN:=a++32::(cF++32::c)
theorem DT{l:List Nd}(h:∀e∈l,aG e=true∧aH e.kind=true)(i:Nat):(withE (l.take i)).length≤9*weighL l:=by
 have h1:=Bx h
 have h2:withE (l.take i)++withE (l.drop i)=withE l:=by unfold withE;rw[←List.flatMap_append,List.take_append_drop]
 rw[←h2,List.length_append]at h1
 omega
theorem KU{x e:Nd}(h:x.kind=9)(hk:x.kids=[e]):stmtT x=OA x.text (exprT e):=by
 cases x;simp only[fB,nG]at h hk;subst hk;subst h;simp[stmtT,OA]
theorem HY{x p e:Nd}(h:x.kind=10)(hk:x.kids=[p,e]):stmtT x=OB (exprT p) (exprT e):=by
 cases x;simp only[fB,nG]at h hk;subst hk;subst h;simp[stmtT,OB]
theorem Fr{x e b:Nd}(h:x.kind=11∨x.kind=12)(hk:x.kids=[e,b]):stmtT x=PU (bC x.kind) (exprT e) (blockT b):=by
 cases x;simp only[fB,nG]at h hk;subst hk;rcases h with rfl|rfl<;>simp[stmtT,PU]
theorem Ft{x e b c:Nd}(h:x.kind=11∨x.kind=12)(hk:x.kids=[e,b,c]):stmtT x=HX (PU (bC x.kind) (exprT e) (blockT b)) (blockT c):=by
 cases x;simp only[fB,nG]at h hk;subst hk;rcases h with rfl|rfl<;>simp[stmtT,PU,HX]
theorem Qx{x:Nd}(h:13≤x.kind):stmtT x=bC x.kind++midT x.kind x.text++withN x.n++withE x.kids++[59]:=by
 cases x;exact stmtT_cmd _ _ _ h
theorem By(x:Nd):blockT x=123::32::(stmtsT x.kids++[125]):=by cases x;unfold blockT;rfl
def Qy(x:Nd):Prop:=aG x=true∧aH x.kind=true
theorem JL{x:Nd}(hr:aG x=true)(hk:cG x.kind=true):(9≤x.kind∧x.kind≤25)∧(x.kind=9→∃h0:0<x.kids.length,Qy x.kids[0]∧stmtT x=OA x.text (exprT x.kids[0]))∧
 (x.kind=10→∃(h0:0<x.kids.length) (h1:1<x.kids.length),Qy x.kids[0]∧Qy x.kids[1]∧stmtT x=OB (exprT x.kids[0]) (exprT x.kids[1]))∧
 (x.kind=11∨x.kind=12→∃(h0:0<x.kids.length) (h1:1<x.kids.length),Qy x.kids[0]∧BlockR x.kids[1]∧((x.kids.length=2∧stmtT x=PU (bC x.kind) (exprT x.kids[0]) (blockT x.kids[1]))∨
  ∃h2:2<x.kids.length,BlockR x.kids[2]∧stmtT x=HX (PU (bC x.kind) (exprT x.kids[0]) (blockT x.kids[1])) (blockT x.kids[2])))∧
 (13≤x.kind→CmdR x.kind x.text x.n x.kids):=by
 refine⟨tZ.1 hk,?_⟩
 rcases right_stmt hr hk with⟨t',e,hx,h1,h2,h3⟩|⟨p,e,hx,h1,h2,h3,h4⟩|⟨k',e,b,hk',hx,h1,h2,h3,h4⟩|⟨e,b,c,hx,h1,h2,h3,h4,h5,h6⟩|⟨k',t',n',ks',h1,h2,hx,h3⟩
 ·subst hx
  exact⟨fun _=>⟨by simp,⟨h2,h3⟩,KU rfl rfl⟩,fun h=>by simp at h,fun h=>by simp at h,fun h=>by simp at h⟩
 ·subst hx
  exact⟨fun h=>by simp at h,fun _=>⟨by simp,by simp,⟨h1,mH h2⟩,⟨h3,h4⟩,HY rfl rfl⟩,fun h=>by simp at h,fun h=>by simp at h⟩
 ·subst hx
  exact⟨fun h=>by simp at h;omega,fun h=>by simp at h;omega,fun _=>⟨by simp,by simp,⟨h1,h2⟩,right_block h3 h4,.inl ⟨rfl,Fr hk' rfl⟩⟩,fun h=>by simp at h;omega⟩
 ·subst hx
  exact⟨fun h=>by simp at h,fun h=>by simp at h,fun _=>⟨by simp,by simp,⟨h1,h2⟩,right_block h3 h4,.inr ⟨by simp,right_block h5 h6,Ft (.inl rfl) rfl⟩⟩,fun h=>by simp at h⟩
 ·subst hx
  exact⟨fun h=>by simp at h;omega,fun h=>by simp at h;omega,fun h=>by simp at h;omega,fun _=>h3⟩
theorem CR(k:Int)(t:aN):(midT k t).length≤t.length+2:=by
 unfold midT;split
 ·simp
 ·split<;>simp
theorem Bz(n:Int):(withN n).length≤5:=by
 have:=lX n
 unfold withN;split
 ·simp only[List.length_cons];omega
 ·simp
theorem CK{l:List Nd}(h:∀y∈l,(stmtT y).length+1≤40*weighN y)(i:Nat):(stmtsT (l.take i)).length≤40*weighL l:=by
 have key:∀l:List Nd,(∀y∈l,(stmtT y).length+1≤40*weighN y)→(stmtsT l).length≤40*weighL l:=fun l=>by
  induction l with
  |nil=>intro _;simp[stmtsT]
  |cons a r ih=>
   intro h
   have h1:=ih fun y hy=>h y (List.mem_cons_of_mem _ hy)
   have h2:=h a (by simp)
   have h3:1≤weighN a:=by rw[weighN_eq];omega
   simp only[stmtsT,weighL,List.length_append,List.length_cons]
   omega
 have h1:=key l h
 have h2:=pI (l.take i) (l.drop i)
 rw[List.take_append_drop]at h2
 rw[h2,List.length_append]at h1
 omega
theorem rO(x:Nd):(aG x=true→cG x.kind=true→(stmtT x).length+1≤40*weighN x)∧(BlockR x→(blockT x).length≤40*weighN x):=by
 refine mS (p:=fun x=>(aG x=true→cG x.kind=true→(stmtT x).length+1≤40*weighN x)∧(BlockR x→(blockT x).length≤40*weighN x)) (fun k t n ks ih=>⟨?_,?_⟩) x
 ·intro hr hk
  have hw:weighN (.mk k t n ks)=weighL ks+t.length+1:=by rw[weighN]
  have hwl:=xH k
  rcases right_stmt hr hk with⟨t',e,hx,h1,h2,h3⟩|⟨p,e,hx,h1,h2,h3,h4⟩|⟨k',e,b,hk',hx,h1,h2,h3,h4⟩|⟨e,b,c,hx,h1,h2,h3,h4,h5,h6⟩|⟨k',t',n',ks',h1,h2,hx,h3⟩
  ·injection hx with i1 i2 i3 i4
   subst i1;subst i2;subst i4
   have:=jB e h2 h3
   rw[KU rfl rfl,hw]
   simp only[OA,weighL,List.length_append,List.length_cons,List.length_nil,lA]
   omega
  ·injection hx with i1 i2 i3 i4
   subst i1;subst i4
   have:=jB e h3 h4
   have:=jB p h1 (mH h2)
   rw[HY rfl rfl,hw]
   simp only[OB,weighL,List.length_append,List.length_cons,List.length_nil]
   omega
  ·injection hx with i1 i2 i3 i4
   subst i1;subst i4
   have:=jB e h1 h2
   have:=(ih b (by simp)).2 (right_block h3 h4)
   rw[Fr (x:=.mk k t n [e,b]) hk' rfl,hw]
   simp only[PU,weighL,List.length_append,List.length_cons,fB]
   omega
  ·injection hx with i1 i2 i3 i4
   subst i1;subst i4
   have:=jB e h1 h2
   have:=(ih b (by simp)).2 (right_block h3 h4)
   have:=(ih c (by simp)).2 (right_block h5 h6)
   rw[Ft (.inl rfl) rfl,hw]
   simp only[PU,HX,weighL,List.length_append,List.length_cons,fB,show cF.length=4 from rfl]
   omega
  ·injection hx with i1 i2 i3 i4
   subst i1;subst i2;subst i3;subst i4
   have:=Bx (yJ h3).2.2.2
   have:=CR k t
   have:=Bz n
   rw[stmtT_cmd _ _ _ h1,hw]
   simp only[List.length_append,List.length_cons,List.length_nil]
   omega
 ·rintro⟨ks',hx,hy⟩
  injection hx with i1 i2 i3 i4
  subst i4
  have key:∀l:List Nd,(∀y∈l,(stmtT y).length+1≤40*weighN y)→(stmtsT l).length≤40*weighL l:=fun l=>by
   induction l with
   |nil=>intro _;simp[stmtsT]
   |cons a r ih=>
    intro h
    have h1:=ih fun y hy=>h y (List.mem_cons_of_mem _ hy)
    have h2:=h a (by simp)
    have h3:1≤weighN a:=by rw[weighN_eq];omega
    simp only[stmtsT,weighL,List.length_append,List.length_cons]
    omega
  have:=key ks fun y hyk=>(ih y hyk).1 (hy y hyk).1 (hy y hyk).2
  rw[By,weighN]
  simp only[nG,List.length_append,List.length_cons,List.length_nil]
  omega
theorem JM(x:Nd)(hb:BlockR x)(hw:weighN x≤1000000000)(ih:∀y∈x.kids,Ok Tryz.prog 167 [y.d] ⟨.d (.str (stmtT y)),true⟩):Ok Tryz.prog 122 [x.d] ⟨.d (.str (blockT x)),true⟩:=by
 refine Ok.ret Tryz.func122 (by kernel_rfl) (c:=_) rfl Tryz.ntmps122 (by simp) Tryz.results122 (by intro _ h;cases h) fun w0 X hp=>?_
 have hlen:=(rO x).2 hb
 have hwx:=pW x
 have hstm:∀y∈x.kids,aG y=true∧cG y.kind=true:=by obtain⟨ks,rfl,h⟩:=hb;exact h
 refine aA ?_
 simp
 refine aA ?_
 simp
 refine pS.seq ?_
 refine aA ?_
 simp
 refine pS.block ?_
 refine bX (ι:=Nat) (fun i=>aY [(3,.d (.str (123::32::stmtsT (x.kids.take i)))),(7,.d (ndsD x.kids)),(8,.d (aD x.kids.length)),(9,.d (aD i))]) (fun i=>aK []) (fun i=>i≤x.kids.length) (fun i=>x.kids.length-i) 0 (aB [3,7,8,9] [] (by decide) (by decide) (by simp[hp]) (by simp[stmtsT]) (by simp)) (Nat.zero_le _) fun i hi3=>?_
 refine aA ?_
 simp
 refine pS.seq ?_
 refine aC ?_
 simp
 refine⟨fun h3=>?_,fun h3=>?_⟩
 ·refine pS.skip ?_
  simp
  refine pS.seq ?_
  refine pS.block ?_
  refine pS.seq ?_
  have hi:i<x.kids.length:=by omega
  refine aL ?_
  simp[hi]
  have hk:=ih _ (List.getElem_mem hi)
  have hs:=hstm _ (List.getElem_mem hi)
  have l1:=(rO x.kids[i]).1 hs.1 hs.2
  have l2:=sU hi
  have l3:=CK (l:=x.kids) (fun y hy=>(rO y).1 (hstm y hy).1 (hstm y hy).2) i
  have l4:=weighN_eq x
  refine pS.ro hT hW (fun|15=>some<| .plain ⟨.d (.str (stmtT x.kids[i])),true⟩|_=>none) ?_
  simp
  refine⟨⟨⟨by simpa using hk,by omega⟩,by omega⟩,?_⟩
  refine aL ?_
  simp
  refine⟨by omega,?_⟩
  refine KN.mk (i+1) (aB [3,7,8,9] [] (by decide) (by decide) (by simp[hp]) (by simp[HW hi]) (by simp)) ?_ ?_
  ·omega
  ·omega
 ·refine pS.exit ?_
  simp
  refine pS.seq ?_
  have hi:i=x.kids.length:=by omega
  subst hi
  rw[List.take_length]
  rw[By]at hlen
  simp only[List.length_append,List.length_cons]at hlen
  refine aL ?_
  simp
  refine⟨by omega,?_⟩
  refine pS.ret ?_
  simp[By]
end
open Go.Proofs
section
attribute[local simp] pL.cond Nd.d_eq nd_t nd_dr nd_td ndsD
theorem Ml(x:Nd)(hr:aG x=true)(hk:cG x.kind=true)(hw:weighN x≤1000000000)(ihb:∀y∈x.kids,BlockR y→Ok Tryz.prog 122 [y.d] ⟨.d (.str (blockT y)),true⟩):Ok Tryz.prog 167 [x.d] ⟨.d (.str (stmtT x)),true⟩:=by
 refine Ok.ret Tryz.func167 (by kernel_rfl) (c:=_) rfl Tryz.ntmps167 (by simp) Tryz.results167 (by intro _ h;cases h) fun w0 X hp=>?_
 obtain⟨f0,f9,f10,f11,f13⟩:=JL hr hk
 have hwx:=weighN_eq x
 have hlen:=(rO x).1 hr hk
 have wl:=xH x.kind
 have q2:=sV
 have hmem:∀(i:Nat) (hi:i<x.kids.length),weighN x.kids[i]<weighN x:=fun i hi=>sU hi
 refine aA ?_
 simp
 refine pS.seq ?_
 refine aA ?_
 simp
 refine pS.block ?_
 refine aA ?_
 simp
 refine aC ?_
 simp
 refine⟨fun h2=>?_,fun h2=>?_⟩
 ·refine pS.seq ?_
  obtain⟨h0,k0,e0⟩:=f9 h2
  have w0:=hmem 0 h0
  have l0:=jB _ k0.1 k0.2
  have c0:=AH _ k0.1 k0.2 (by omega)
  refine aI hT hW bU (lk [[],[0],[0,1],[0,1,2],[],[4],[4,5],[4,5,6],[4,5,6,7],[0,1,2,3,4,5,6,7,8],[0,1,2,3,4,5,6,7,8,9],[0,1,2,3,4,5,6,7,8,9,10]]) (lk [[19],[19],[19],[19],[],[],[],[],[],[],[],[]]) (lk [[],[],[],[],[],[],[],[],[19],[],[],[]]) (by kernel_rfl) (fun|19=>some<| .plain ⟨.d (.str (exprT x.kids[0])),true⟩|_=>none) (by intro d;first|exact⟨rfl,fun _ h=>h⟩|(split<;>exact⟨rfl,fun _ h=>h⟩)) ?_
  simp[h0]
  refine⟨⟨⟨⟨⟨by omega,by omega⟩,by simpa using c0⟩,by omega⟩,by omega⟩,?_⟩
  refine pS.ret ?_
  simp[e0,OA]
 ·refine aA ?_
  simp
  refine aC ?_
  simp
  refine⟨fun h4=>?_,fun h4=>?_⟩
  ·refine pS.seq ?_
   obtain⟨h0,h1,k0,k1,e0⟩:=f10 h4
   have w0:=hmem 0 h0
   have w1:=hmem 1 h1
   have l0:=jB _ k0.1 k0.2
   have l1:=jB _ k1.1 k1.2
   have c0:=AH _ k0.1 k0.2 (by omega)
   have c1:=AH _ k1.1 k1.2 (by omega)
   refine aI hT hW bU (lk [[],[0],[0,1],[0,1,2],[0,1,2,3],[0,1,2,3,4],[],[6],[6,7],[6,7,8],[0,1,2,3,4,6,7,8,9],[0,1,2,3,4,5,6,7,8,9,10],[0,1,2,3,4,5,6,7,8,9,10,11],[0,1,2,3,4,5,6,7,8,9,10,11,12]]) (lk [[],[],[],[],[],[34],[28],[28],[28],[28],[],[],[],[]]) (lk [[],[],[],[],[28],[],[],[],[],[],[34],[],[],[]]) (by kernel_rfl) (fun|28=>some<| .plain ⟨.d (.str (exprT x.kids[0])),true⟩|34=>some<| .plain ⟨.d (.str (exprT x.kids[1])),true⟩|_=>none) (by intro d;first|exact⟨rfl,fun _ h=>h⟩|(split<;>exact⟨rfl,fun _ h=>h⟩)) ?_
   simp[h0,h1]
   refine⟨by(repeat' with_reducible apply And.intro)<;>first|omega|(simpa using c0)|(simpa using c1),?_⟩
   refine pS.ret ?_
   simp[e0,OB]
  ·refine aT (ι:=BC) (fun⟨b⟩=>aY [(1,.bx 1 0),(37,.d (.bool b))]) (fun⟨b⟩=>aK [(1,.box false [.d (aD x.kind),.d (.str x.text),.d (aD x.n),.d (ndsD x.kids)])]) (fun⟨b⟩=>b=true↔(x.kind=11∨x.kind=12)) ?_ fun⟨b⟩ hc8=>?_
   ·refine aA ?_
    simp
    refine aC ?_
    simp
    refine⟨fun h6=>?_,fun h6=>?_⟩
    ·refine pS.skip ?_
     simp
     refine Qo.mk ⟨decide (x.kind=11)⟩ (aB [1,37] [(1,1)] (by decide) (by decide) (by simp[hp]) (by simp) (by simp)) ?_
     simp[h6]
    ·refine aL ?_
     simp
     refine Qo.mk ⟨decide (x.kind=12)⟩ (aB [1,37] [(1,1)] (by decide) (by decide) (by simp[hp]) (by simp) (by simp)) ?_
     simp only[decide_eq_true_eq];omega
   ·refine aC ?_
    simp
    refine⟨fun h8=>?_,fun h8=>?_⟩
    ·have q8:=hc8.1 h8
     refine pS.seq ?_
     obtain⟨h0,h1,k0,b1,e0⟩:=f11 q8
     have w0:=hmem 0 h0
     have w1:=hmem 1 h1
     have l0:=jB _ k0.1 k0.2
     have l1:=(rO x.kids[1]).2 b1
     have c0:=AH _ k0.1 k0.2 (by omega)
     have c1:=ihb _ (List.getElem_mem h1) b1
     have q1:=AI (k:=x.kind) (by omega) (by omega)
     refine aI hT hW bU (lk [[],[0],[0,1],[0,1,2],[0,1,2,3],[],[5],[5,6],[5,6,7],[5,6,7,8],[0,1,2,3,4,5,6,7,8,9],[0,1,2,3,4,5,6,7,8,9,10],[],[12],[12,13],[12,13,14],[5,6,7,8,9,12,13,14,15],[0,1,2,3,4,5,6,7,8,9,10,11,12,13,14,15,16],[0,1,2,3,4,5,6,7,8,9,10,11,12,13,14,15,16,17]]) (lk [[49,56],[49,56],[49,56],[49,56],[49,56],[],[],[],[],[],[56],[56],[49],[49],[49],[49],[],[],[]]) (lk [[],[],[],[],[],[],[],[],[],[49],[],[],[],[],[],[],[56],[],[]]) (by kernel_rfl) (fun|49=>some<| .plain ⟨.d (.str (exprT x.kids[0])),true⟩|56=>some<| .plain ⟨.d (.str (blockT x.kids[1])),true⟩|_=>none) (by intro d;first|exact⟨rfl,fun _ h=>h⟩|(split<;>exact⟨rfl,fun _ h=>h⟩)) ?_
     simp[h0,h1,q1]
     refine⟨⟨⟨⟨⟨⟨⟨⟨⟨by omega,by omega⟩,by omega⟩,by simpa using c0⟩,by omega⟩,by omega⟩,by omega⟩,by simpa using c1⟩,by omega⟩,?_⟩
     refine pS.seq ?_
     refine aA ?_
     simp
     refine aC ?_
     simp
     refine⟨fun h9=>?_,fun h9=>?_⟩
     ·have h2':2<x.kids.length:=by omega
      rcases e0 with⟨e0,_⟩|⟨_,b2,e0⟩
      ·omega
      have w2:=hmem 2 h2'
      have l2:=(rO x.kids[2]).2 b2
      have c2:=ihb _ (List.getElem_mem h2') b2
      refine pS.ro hT hW (fun|67=>some<| .plain ⟨.d (.str (blockT x.kids[2])),true⟩|_=>none) ?_
      simp[h2']
      refine⟨by(repeat' with_reducible apply And.intro)<;>first|omega|(simpa using c2),?_⟩
      refine aA ?_
      simp
      refine pS.ret ?_
      simp[e0,PU,HX,cF]
     ·refine pS.skip ?_
      simp
      refine aA ?_
      simp
      refine pS.ret ?_
      rcases e0 with⟨_,e0⟩|⟨h2,_,_⟩
      ·simp[e0,PU]
      ·omega
    ·have q8:¬(x.kind=11∨x.kind=12):=fun q=>by simp[hc8.2 q]at h8
     refine pS.skip ?_
     simp
     refine pS.seq ?_
     have hcm:=f13 (by omega)
     obtain⟨g1,g2,g3,g4⟩:=yJ hcm
     have e0:=Qx (x:=x) (by omega)
     have ml:=CR x.kind x.text
     have nl:=Bz x.n
     have kl:=Bx g4
     have q1:=AI (k:=x.kind) (by omega) (by omega)
     refine aL ?_
     simp[q1]
     refine⟨by(repeat' with_reducible apply And.intro)<;>omega,?_⟩
     refine aT (ι:=Unit) (fun i=>aY [(1,.bx 1 0),(4,.d (.str (bC x.kind++midT x.kind x.text)))]) (fun i=>aK [(1,.box false [.d (aD x.kind),.d (.str x.text),.d (aD x.n),.d (ndsD x.kids)])]) (fun i=>True) ?_ fun i hc21=>?_
     ·refine aA ?_
      simp
      refine pS.block ?_
      refine aT (ι:=BC) (fun⟨b⟩=>aY [(1,.bx 1 0),(4,.d (.str (bC x.kind))),(76,.d (aD x.kind)),(82,.d (.bool b))]) (fun⟨b⟩=>aK [(1,.box false [.d (aD x.kind),.d (.str x.text),.d (aD x.n),.d (ndsD x.kids)])]) (fun⟨b⟩=>b=true↔(x.kind=19∨x.kind=20)) ?_ fun⟨b⟩ hc17=>?_
      ·refine aA ?_
       simp
       refine aC ?_
       simp
       refine⟨fun h15=>?_,fun h15=>?_⟩
       ·refine pS.skip ?_
        simp
        refine Qo.mk ⟨decide (x.kind=19)⟩ (aB [1,4,76,82] [(1,1)] (by decide) (by decide) (by simp[hp]) (by simp) (by simp)) ?_
        simp[h15]
       ·refine aL ?_
        simp
        refine Qo.mk ⟨decide (x.kind=20)⟩ (aB [1,4,76,82] [(1,1)] (by decide) (by decide) (by simp[hp]) (by simp) (by simp)) ?_
        simp only[decide_eq_true_eq];omega
      ·refine aC ?_
       simp
       refine⟨fun h17=>?_,fun h17=>?_⟩
       ·have q17:=hc17.1 h17
        refine aL ?_
        simp
        refine⟨by(repeat' with_reducible apply And.intro)<;>omega,?_⟩
        exact(aB [1,4] [(1,1)] (by decide) (by decide) (by simp[hp]) (by simp[midT,q17]) (by simp))
       ·have q17:¬(x.kind=19∨x.kind=20):=fun q=>by simp[hc17.2 q]at h17
        refine aT (ι:=BC) (fun⟨b⟩=>aY [(1,.bx 1 0),(4,.d (.str (bC x.kind))),(76,.d (aD x.kind)),(90,.d (.bool b))]) (fun⟨b⟩=>aK [(1,.box false [.d (aD x.kind),.d (.str x.text),.d (aD x.n),.d (ndsD x.kids)])]) (fun⟨b⟩=>b=true↔(x.kind=21∨x.kind=25∨x.kind=24)) ?_ fun⟨b⟩ hc14=>?_
        ·refine aA ?_
         simp
         refine aC ?_
         simp
         refine⟨fun h18=>?_,fun h18=>?_⟩
         ·refine pS.skip ?_
          simp
          refine Qo.mk ⟨decide (x.kind=21)⟩ (aB [1,4,76,90] [(1,1)] (by decide) (by decide) (by simp[hp]) (by simp) (by simp)) ?_
          simp[h18]
         ·refine aA ?_
          simp
          refine aC ?_
          simp
          refine⟨fun h19=>?_,fun h19=>?_⟩
          ·refine pS.skip ?_
           simp
           refine Qo.mk ⟨decide (x.kind=25)⟩ (aB [1,4,76,90] [(1,1)] (by decide) (by decide) (by simp[hp]) (by simp) (by simp)) ?_
           simp[h19]
          ·refine aL ?_
           simp
           refine Qo.mk ⟨decide (x.kind=24)⟩ (aB [1,4,76,90] [(1,1)] (by decide) (by decide) (by simp[hp]) (by simp) (by simp)) ?_
           simp only[decide_eq_true_eq];omega
        ·refine aC ?_
         simp
         refine⟨fun h14=>?_,fun h14=>?_⟩
         ·have q14:=hc14.1 h14
          refine pS.skip ?_
          simp
          exact(aB [1,4] [(1,1)] (by decide) (by decide) (by simp[hp]) (by simp[midT,q17,q14]) (by simp))
         ·have q14:¬(x.kind=21∨x.kind=25∨x.kind=24):=fun q=>by simp[hc14.2 q]at h14
          refine aL ?_
          simp
          refine⟨by(repeat' with_reducible apply And.intro)<;>omega,?_⟩
          exact(aB [1,4] [(1,1)] (by decide) (by decide) (by simp[hp]) (by simp[midT,q17,q14]) (by simp))
     ·refine aT (ι:=Unit) (fun i=>aY [(1,.bx 1 0),(4,.d (.str (bC x.kind++(midT x.kind x.text++withN x.n))))]) (fun i=>aK [(1,.box false [.d (aD x.kind),.d (.str x.text),.d (aD x.n),.d (ndsD x.kids)])]) (fun i=>True) ?_ fun i hc23=>?_
      ·refine aA ?_
       simp
       refine aC ?_
       simp
       refine⟨fun h21=>?_,fun h21=>?_⟩
       ·have ci:=AG x.n (by omega) g3
        have hn:withN x.n=32::fC x.n:=by unfold withN;rw[if_pos h21]
        have il:=lX x.n
        refine pS.ro hT hW (fun|100=>some<| .plain ⟨.d (.str (fC x.n)),true⟩|_=>none) ?_
        simp
        refine⟨by(repeat' with_reducible apply And.intro)<;>first|omega|(simpa using ci)|(simp only[List.length_append];omega),?_⟩
        exact(aB [1,4] [(1,1)] (by decide) (by decide) (by simp[hp]) (by simp[hn]) (by simp))
       ·refine pS.skip ?_
        simp
        exact(aB [1,4] [(1,1)] (by decide) (by decide) (by simp[hp]) (by simp[withN,show¬0<x.n by omega]) (by simp))
      ·refine pS.seq ?_
       refine aA ?_
       simp
       refine pS.block ?_
       refine bX (ι:=Nat) (fun i=>aY [(4,.d (.str (bC x.kind++(midT x.kind x.text++(withN x.n++withE (x.kids.take i)))))),(104,.d (ndsD x.kids)),(105,.d (aD x.kids.length)),(106,.d (aD i))]) (fun i=>aK []) (fun i=>i≤x.kids.length) (fun i=>x.kids.length-i) 0 (aB [4,104,105,106] [] (by decide) (by decide) (by simp[hp]) (by simp[withE]) (by simp)) (Nat.zero_le _) fun i hi24=>?_
       refine aA ?_
       simp
       refine pS.seq ?_
       refine aC ?_
       simp
       refine⟨fun h24=>?_,fun h24=>?_⟩
       ·refine pS.skip ?_
        simp
        refine pS.seq ?_
        refine pS.block ?_
        refine pS.seq ?_
        have hi:i<x.kids.length:=by omega
        refine aL ?_
        simp[hi]
        have ki:=g4 _ (List.getElem_mem hi)
        have wi:=hmem i hi
        have li:=jB _ ki.1 ki.2
        have ci:=AH _ ki.1 ki.2 (by omega)
        have lt:=DT g4 i
        refine pS.ro hT hW (fun|112=>some<| .plain ⟨.d (.str (exprT x.kids[i])),true⟩|_=>none) ?_
        simp
        refine⟨by(repeat' with_reducible apply And.intro)<;>first|omega|(simpa using ci)|(simp only[List.length_append];omega),?_⟩
        have:=pW x
        refine aL ?_
        simp
        refine⟨by omega,?_⟩
        refine KN.mk (i+1) (aB [4,104,105,106] [] (by decide) (by decide) (by simp[hp]) (by simp[JK hi]) (by simp)) ?_ ?_
        ·omega
        ·omega
       ·refine pS.exit ?_
        simp
        refine pS.seq ?_
        have hi:i=x.kids.length:=by omega
        subst hi
        rw[List.take_length]
        refine aL ?_
        simp
        refine⟨by first|omega|(simp only[List.length_append];omega),?_⟩
        refine pS.ret ?_
        simp[e0]
end
open Go.Proofs
section
attribute[local simp] pL.cond Nd.d_eq nd_t nd_dr nd_td ndsD
theorem SA(x:Nd):(aG x=true→cG x.kind=true→weighN x≤1000000000→Ok Tryz.prog 167 [x.d] ⟨.d (.str (stmtT x)),true⟩)∧(BlockR x→weighN x≤1000000000→Ok Tryz.prog 122 [x.d] ⟨.d (.str (blockT x)),true⟩):=by
 refine mS (p:=fun x=>(aG x=true→cG x.kind=true→weighN x≤1000000000→Ok Tryz.prog 167 [x.d] ⟨.d (.str (stmtT x)),true⟩)∧(BlockR x→weighN x≤1000000000→Ok Tryz.prog 122 [x.d] ⟨.d (.str (blockT x)),true⟩)) (fun k t n ks ih=>⟨?_,?_⟩) x
 ·intro hr hk hw
  have hwk:∀y∈ks,weighN y≤1000000000:=fun y hy=>by have:=weigh_mem hy;rw[weighN]at hw;omega
  exact Ml _ hr hk hw fun y hy hb=>(ih y hy).2 hb (hwk y hy)
 ·intro hb hw
  have hwk:∀y∈ks,weighN y≤1000000000:=fun y hy=>by have:=weigh_mem hy;rw[weighN]at hw;omega
  obtain⟨ks',hx,hy⟩:=id hb
  injection hx with i1 i2 i3 i4
  exact JM _ hb hw fun y hyk=>(ih y hyk).1 (hy y (i4▸hyk)).1 (hy y (i4▸hyk)).2 (hwk y hyk)
theorem Mm{x:Nd}:(itemT x).length≤9*weighN x:=by
 have:=lX x.n
 rw[weighN_eq]
 simp only[itemT,List.length_append,List.length_cons,List.length_nil]
 omega
theorem zS:∀l:List Nd,(l.flatMap itemT).length≤9*weighL l
 |[]=>by simp
 |a::r=>by
  have h1:=zS r
  have h2:=Mm (x:=a)
  simp only[List.flatMap_cons,weighL,List.length_append]
  omega
theorem JN{l:List Nd}{i:Nat}(hi:i<l.length):(l.take (i+1)).flatMap itemT=(l.take i).flatMap itemT++itemT l[i]:=by
 rw[←List.take_append_getElem hi,List.flatMap_append];simp
theorem DU{l:List Nd}(i:Nat):((l.take i).flatMap itemT).length≤9*weighL l:=by
 have h1:=zS l
 have h2:(l.take i).flatMap itemT++(l.drop i).flatMap itemT=l.flatMap itemT:=by rw[←List.flatMap_append,List.take_append_drop]
 rw[←h2,List.length_append]at h1
 omega
def yL(l:List Nd):aN:=l.flatMap itemT
theorem KV(x:Nd)(hd:Oi x)(hw:weighN x≤1000000000):Ok Tryz.prog 62 [x.d] ⟨.d (.str (textT x)),true⟩:=by
 refine Ok.ret Tryz.func62 (by kernel_rfl) (c:=_) rfl Tryz.ntmps62 (by simp) Tryz.results62 (by intro _ h;cases h) fun w0 X hp=>?_
 obtain⟨ht,hd⟩:=hd
 have hwx:=weighN_eq x
 have wl:=xH x.kind
 have q2:=sV
 have f0:0≤x.kind∧x.kind≤6:=by rcases hd with⟨h|h,_⟩|⟨h,_⟩|⟨h,_⟩|⟨h,_⟩|⟨h|h,_⟩<;>omega
 have q1:=AI (k:=x.kind) (by omega) (by omega)
 have il:=lX x.n
 refine aA ?_
 simp
 refine pS.seq ?_
 refine aI hT hW bU (lk [[],[0],[0,1],[0,1,2],[0,1,2,3],[],[5],[0,1,2,3,4,5,6],[0,1,2,3,4,5,6,7]]) (lk [[],[],[],[],[],[],[],[],[]]) (lk [[],[],[],[],[],[],[],[],[]]) (by kernel_rfl) (fun _=>none) (fun _=>⟨rfl,fun _ h=>h⟩) ?_
 simp[q1]
 refine⟨by(repeat' with_reducible apply And.intro)<;>omega,?_⟩
 refine pS.seq ?_
 refine aA ?_
 simp
 refine pS.block ?_
 refine aT (ι:=BC) (fun⟨b⟩=>aY [(1,.bx 1 0),(3,.d (.str (bC x.kind++32::x.text))),(15,.d (aD x.kind)),(16,.d (.bool b))]) (fun⟨b⟩=>aK [(1,.box false [.d (aD x.kind),.d (.str x.text),.d (aD x.n),.d (ndsD x.kids)])]) (fun⟨b⟩=>b=true↔(x.kind=5∨x.kind=6)) ?_ fun⟨b⟩ hc5=>?_
 ·refine aA ?_
  simp
  refine aC ?_
  simp
  refine⟨fun h3=>?_,fun h3=>?_⟩
  ·refine pS.skip ?_
   simp
   refine Qo.mk ⟨decide (x.kind=5)⟩ (aB [1,3,15,16] [(1,1)] (by decide) (by decide) (by simp[hp]) (by simp) (by simp)) ?_
   simp[h3]
  ·refine aL ?_
   simp
   refine Qo.mk ⟨decide (x.kind=6)⟩ (aB [1,3,15,16] [(1,1)] (by decide) (by decide) (by simp[hp]) (by simp) (by simp)) ?_
   simp only[decide_eq_true_eq];omega
 ·refine aC ?_
  simp
  refine⟨fun h5=>?_,fun h5=>?_⟩
  ·have q5:=hc5.1 h5
   refine pS.seq ?_
   have hd5:∃b,x=.mk x.kind x.text 0 [b]∧BlockR b:=by
    rcases hd with⟨_,h⟩|⟨h,_⟩|⟨h,_⟩|⟨h,_⟩|⟨h|h,_⟩<;>first|exact h|omega
   obtain⟨c,hx,hb⟩:=hd5
   have hks:x.kids=[c]:=by rw[hx];rfl
   rw[hks]at hwx
   simp only[weighL]at hwx
   have bl:=(rO c).2 hb
   have kb:=(SA c).2 hb (by omega)
   refine pS.ro hT hW (fun|25=>some<| .plain ⟨.d (.str (blockT c)),true⟩|_=>none) ?_
   simp[hks]
   refine⟨⟨⟨by omega,by simpa using kb⟩,by omega⟩,?_⟩
   refine pS.ret ?_
   simp[textT,q5,hks]
  ·have q5:¬(x.kind=5∨x.kind=6):=fun q=>by simp[hc5.2 q]at h5
   refine aA ?_
   simp
   refine aC ?_
   simp
   refine⟨fun h6=>?_,fun h6=>?_⟩
   ·refine pS.seq ?_
    have hd7:∀y∈x.kids,HS y:=by
     rcases hd with⟨h|h,_⟩|⟨_,_,h⟩|⟨h,_⟩|⟨h,_⟩|⟨h|h,_⟩<;>first|exact h|omega
    refine aL ?_
    simp
    refine⟨by omega,?_⟩
    refine pS.seq ?_
    refine aA ?_
    simp
    refine pS.block ?_
    refine bX (ι:=Nat) (fun i=>aY [(3,.d (.str (bC x.kind++32::(x.text++32::123::32::yL (x.kids.take i))))),(32,.d (ndsD x.kids)),(33,.d (aD x.kids.length)),(34,.d (aD i))]) (fun i=>aK []) (fun i=>i≤x.kids.length) (fun i=>x.kids.length-i) 0 (aB [3,32,33,34] [] (by decide) (by decide) (by simp[hp]) (by simp[yL]) (by simp)) (Nat.zero_le _) fun i hi9=>?_
    refine aA ?_
    simp
    refine pS.seq ?_
    refine aC ?_
    simp
    refine⟨fun h9=>?_,fun h9=>?_⟩
    ·refine pS.skip ?_
     simp
     refine pS.seq ?_
     refine pS.block ?_
     refine pS.seq ?_
     have hi:i<x.kids.length:=by omega
     refine aL ?_
     simp[hi]
     obtain⟨t',n',hy,g1,g2,g3⟩:=hd7 _ (List.getElem_mem hi)
     have en:x.kids[i].n=n':=by rw[hy];rfl
     have ci:=AG x.kids[i].n (by omega) (by omega)
     have lt:=DU (l:=x.kids) i
     have li:=lX x.kids[i].n
     have wi:=sU hi
     rw[weighN_eq x.kids[i]]at wi
     have lo:(yL (x.kids.take i)).length≤9*weighL x.kids:=lt
     refine aI hT hW bU (lk [[],[],[1],[1,2],[],[4],[4,5],[1,2,3,4,5,6],[1,2,3,4,5,6,7],[0,1,2,3,4,5,6,7,8],[0,1,2,3,4,5,6,7,8,9]]) (lk [[44],[44],[44],[44],[],[],[],[],[],[],[]]) (lk [[],[],[],[],[],[],[44],[],[],[],[]]) (by kernel_rfl) (fun|44=>some<| .plain ⟨.d (.str (fC x.kids[i].n)),true⟩|_=>none) (by intro d;first|exact⟨rfl,fun _ h=>h⟩|(split<;>exact⟨rfl,fun _ h=>h⟩)) ?_
     simp
     refine⟨by(repeat' with_reducible apply And.intro)<;>first|omega|exact ci|(simp only[List.length_append,List.length_cons];omega),?_⟩
     have:=pW x
     refine aL ?_
     simp
     refine⟨by omega,?_⟩
     refine KN.mk (i+1) (aB [3,32,33,34] [] (by decide) (by decide) (by simp[hp]) (by simp[yL,JN hi,itemT]) (by simp)) ?_ ?_
     ·omega
     ·omega
    ·refine pS.exit ?_
     simp
     refine pS.seq ?_
     have hi:i=x.kids.length:=by omega
     subst hi
     rw[List.take_length]
     have lt:=zS x.kids
     have lo:(yL x.kids).length≤9*weighL x.kids:=lt
     refine aL ?_
     simp
     refine⟨by omega,?_⟩
     refine pS.ret ?_
     simp[textT,q5,h6,yL]
   ·refine aA ?_
    simp
    refine aC ?_
    simp
    refine⟨fun h14=>?_,fun h14=>?_⟩
    ·have hd15: -999≤x.n∧x.n≤999:=by
      rcases hd with⟨h|h,_⟩|⟨h,_⟩|⟨_,_,h⟩|⟨h,_⟩|⟨h|h,_⟩<;>omega
     have ci:=AG x.n hd15.1 hd15.2
     refine pS.ro hT hW (fun|56=>some<| .plain ⟨.d (.str (fC x.n)),true⟩|_=>none) ?_
     simp
     refine⟨by(repeat' with_reducible apply And.intro)<;>first|omega|exact ci,?_⟩
     refine aA ?_
     simp
     refine⟨by omega,?_⟩
     refine pS.ret ?_
     simp[textT,q5,h6,h14]
    ·refine aA ?_
     simp
     refine aC ?_
     simp
     refine⟨fun h16=>?_,fun h16=>?_⟩
     ·have hd17:0≤x.n∧x.n≤3:=by
       rcases hd with⟨h|h,_⟩|⟨h,_⟩|⟨h,_⟩|⟨_,_,h⟩|⟨h|h,_⟩<;>omega
      have ci:=AG x.n (by omega) (by omega)
      refine pS.ro hT hW (fun|64=>some<| .plain ⟨.d (.str (fC x.n)),true⟩|_=>none) ?_
      simp
      refine⟨by(repeat' with_reducible apply And.intro)<;>first|omega|exact ci,?_⟩
      refine aA ?_
      simp
      refine⟨by omega,?_⟩
      refine pS.ret ?_
      simp[textT,q5,h6,h14,h16]
     ·refine pS.skip ?_
      simp
      refine aA ?_
      simp
      refine⟨by omega,?_⟩
      refine pS.ret ?_
      simp[textT,q5,h6,h14,h16]
end
open Go.Proofs
section
attribute[local simp] pL.cond Nd.d_eq nd_t nd_dr nd_td ndsD bG
theorem zT(c:UInt8):aV c=(decide (97≤(c.toNat:Int))&&decide ((c.toNat:Int)≤122)):=by
 unfold aV
 congr 1<;>(rw[decide_eq_decide,UInt8.le_iff_toNat_le];exact⟨fun h=>by have:(97:UInt8).toNat=97:=rfl;have:(122:UInt8).toNat=122:=rfl;omega,fun h=>by have:(97:UInt8).toNat=97:=rfl;have:(122:UInt8).toNat=122:=rfl;omega⟩)
theorem BA(c:UInt8):aO c=(decide (48≤(c.toNat:Int))&&decide ((c.toNat:Int)≤57)):=by
 unfold aO
 congr 1<;>(rw[decide_eq_decide,UInt8.le_iff_toNat_le];exact⟨fun h=>by have:(48:UInt8).toNat=48:=rfl;have:(57:UInt8).toNat=57:=rfl;omega,fun h=>by have:(48:UInt8).toNat=48:=rfl;have:(57:UInt8).toNat=57:=rfl;omega⟩)
theorem yM(c:UInt8):Ok Tryz.prog 155 [.int .u8 (c.toNat:Int)] ⟨.d (.bool (aV c)),true⟩:=by
 refine Ok.ret Tryz.func155 (by kernel_rfl) (c:=_) rfl Tryz.ntmps155 (by simp) Tryz.results155 (by intro _ h;cases h) fun w0 X hp=>?_
 refine aA ?_
 simp
 refine aA ?_
 simp
 refine pS.ret ?_
 simp[zT]
theorem xI(c:UInt8):Ok Tryz.prog 157 [.int .u8 (c.toNat:Int)] ⟨.d (.bool (aO c)),true⟩:=by
 refine Ok.ret Tryz.func157 (by kernel_rfl) (c:=_) rfl Tryz.ntmps157 (by simp) Tryz.results157 (by intro _ h;cases h) fun w0 X hp=>?_
 refine aA ?_
 simp
 refine aA ?_
 simp
 refine pS.ret ?_
 simp[BA]
theorem OC(s:aN)(p:UInt8→Bool)(g:FuncId)(hg:∀c:UInt8,Ok Tryz.prog g [.int .u8 (c.toNat:Int)] ⟨.d (.bool (p c)),true⟩)(hl:s.length≤9223372036854775807):Ok Tryz.prog 158 [.str s,.fn g []] ⟨.d (aD (iX p s)),true⟩:=by
 refine Ok.ret Tryz.func158 (by kernel_rfl) (c:=_) rfl Tryz.ntmps158 (by simp) Tryz.results158 (by intro _ h;cases h) fun w0 X hp=>?_
 refine aA ?_
 simp
 refine aA ?_
 simp
 refine pS.seq ?_
 refine pS.block ?_
 refine bX (ι:=Nat) (fun i=>aY [(0,.d (.str s)),(1,.d (.fn g [])),(5,.d (aD i))]) (fun i=>aK []) (fun i=>i≤s.length∧∀(j:Nat) (h:j<s.length),j<i→p s[j]=true) (fun i=>s.length-i) 0 (aB [0,1,5] [] (by decide) (by decide) (by simp[hp]) (by simp) (by simp)) (⟨Nat.zero_le _,fun j _ h=>absurd h (Nat.not_lt_zero _)⟩) fun i hi2=>?_
 refine pS.seq ?_
 refine pS.seq ?_
 have hc:=hg (s.getD i 0)
 refine pS.ro hT hW (fun|15=>some<| .plain ⟨.d (.bool (p (s.getD i 0))),true⟩|_=>none) ?_
 simp[cA]
 refine⟨fun _=>by simpa using hc,?_⟩
 refine aC ?_
 simp
 refine⟨fun g1 g2=>?_,fun g=>?_⟩
 ·refine pS.skip ?_
  simp
  refine pS.block ?_
  refine aL ?_
  simp
  refine⟨by omega,?_⟩
  refine KN.mk (i+1) (aB [0,1,5] [] (by decide) (by decide) (by simp[hp]) (by simp) (by simp)) ?_ ?_
  ·refine⟨by omega,fun j hj q=>?_⟩
   rcases Nat.lt_or_ge j i with q'|q'
   ·exact hi2.2 j hj q'
   ·have:j=i:=by omega
    subst this
    simpa [g1]using g2
  ·omega
 ·refine pS.exit ?_
  simp
  refine aA ?_
  simp
  refine pS.ret ?_
  simp
  have hr:=Qq (p:=p) (s:=s) hi2.1 (fun j hj=>hi2.2 j (by omega) hj) (fun hl=>by
   have:=g hl
   simpa [hl]using this)
  omega
theorem OD(c:UInt8):Ok Tryz.prog 204 [.int .u8 (c.toNat:Int)] ⟨.d (.bool (aV c||aO c)),true⟩:=by
 refine Ok.ret Tryz.func204 (by kernel_rfl) (c:=_) rfl Tryz.ntmps204 (by simp) Tryz.results204 (by intro _ h;cases h) fun w0 X hp=>?_
 refine aA ?_
 simp
 refine cB hT hW (fun|4=>some<| .plain ⟨.d (.bool (aV c)),true⟩|7=>some<| .plain ⟨.d (.bool (aO c)),true⟩|_=>none) ?_
 simp
 refine⟨⟨yM c,fun _=>xI c⟩,?_⟩
 refine pS.ret ?_
 simp
theorem BD(s:aN):dR s=if s=[]∨aV (s[0]?.getD 0)=false then 0 else if 16<iX (fun c=>aV c||aO c) s then 0 else iX (fun c=>aV c||aO c) s:=by
 cases s with
 |nil=>rfl
 |cons c r=>
  have e:((c::r)[0]?.getD 0)=c:=rfl
  rw[e]
  unfold dR
  generalize iX (fun c=>aV c||aO c) (c::r)=n
  by_cases q:aV c=true
  ·simp only[q,if_true]
   by_cases h:n≤16
   ·simp[h,show¬16<n by omega]
   ·simp[h,show 16<n by omega]
  ·simp[q]
theorem GB(s:aN)(hl:s.length≤9223372036854775807):Ok Tryz.prog 156 [.str s] ⟨.d (aD (dR s)),true⟩:=by
 refine Ok.ret Tryz.func156 (by kernel_rfl) (c:=_) rfl Tryz.ntmps156 (by simp) Tryz.results156 (by intro _ h;cases h) fun w0 X hp=>?_
 refine aA ?_
 simp
 refine pS.seq ?_
 refine cB hT hW (fun|9=>some<| .plain ⟨.d (.bool (aV (s.getD 0 0))),true⟩|_=>none) ?_
 simp
 refine⟨⟨fun h=>List.length_pos_iff.2 h,fun _=>yM _⟩,?_⟩
 refine aC ?_
 simp
 refine⟨fun g=>?_,fun g1 g2=>?_⟩
 ·refine aA ?_
  simp
  refine pS.ret ?_
  simp
  rw[BD,if_pos g]
  rfl
 ·refine pS.skip ?_
  simp
  refine pS.seq ?_
  have hr:=OC s (fun c=>aV c||aO c) 204 (fun c=>OD c) hl
  refine pS.ro hT hW (fun|13=>some<| .plain ⟨.d (aD (iX (fun c=>aV c||aO c) s)),true⟩|_=>none) ?_
  simp
  refine⟨by simpa using hr,?_⟩
  refine pS.seq ?_
  refine aA ?_
  simp
  refine aC ?_
  simp
  refine⟨fun h4=>?_,fun h4=>?_⟩
  ·refine aA ?_
   simp
   refine pS.ret ?_
   simp
   rw[BD,if_neg,if_pos (by omega)]
   ·rfl
   intro q
   rcases q with q|q
   ·exact g1 (by simpa using q)
   ·simp[q]at g2
  ·refine pS.skip ?_
   simp
   refine aA ?_
   simp
   refine pS.ret ?_
   simp
   rw[BD,if_neg,if_neg (by omega)]
   intro q
   rcases q with q|q
   ·exact g1 (by simpa using q)
   ·simp[q]at g2
theorem vY:List.take 26 zG=cZ.map DV.str:=rfl
theorem HZ(s:aN):Ok Tryz.prog 207 [.str s] ⟨.d (.bool (qC s)),true⟩:=by
 refine Ok.ret Tryz.func207 (by kernel_rfl) (c:=_) rfl Tryz.ntmps207 (by simp) Tryz.results207 (by intro _ h;cases h) fun w0 X hp=>?_
 refine aA ?_
 simp
 refine pS.seq ?_
 have hi:=On cZ s
 have q2:=sV
 refine pS.ro hT hW (fun|12=>some<| .plain ⟨.d (.bool (decide (s∈cZ))),true⟩|_=>none) ?_
 simp[vY]
 refine⟨⟨fun _ _=>by omega,fun _ _=>hi⟩,?_⟩
 refine pS.ret ?_
 simp
 show _=(decide (s=[101,108,115,101])||decide (s=[107,105,110,100])||decide (s∈cZ))
 simp only[Bool.beq_eq_decide_eq]
theorem Fu(s:aN):Ok Tryz.prog 161 [.str s] ⟨.d (.bool (jO s)),true⟩:=by
 refine Ok.ret Tryz.func161 (by kernel_rfl) (c:=_) rfl Tryz.ntmps161 (by simp) Tryz.results161 (by intro _ h;cases h) fun w0 X hp=>?_
 refine aA ?_
 simp
 refine cB hT hW (fun|8=>some<| .plain ⟨.d (.bool (aV (s.getD 0 0))),true⟩|12=>some<| .plain ⟨.d (.bool (qC s)),true⟩|_=>none) ?_
 simp
 refine⟨⟨⟨fun h=>List.length_pos_iff.2 h,fun _=>yM _⟩,fun _ _=>HZ s⟩,?_⟩
 refine pS.ret ?_
 cases s<;>simp[jO]
theorem AJ(s:aN)(b:Bool)(hl:s.length≤9223372036854775807):Ok Tryz.prog 222 [.str s,.bool b] ⟨.d (.bool (cC s b)),true⟩:=by
 refine Ok.ret Tryz.func222 (by kernel_rfl) (c:=_) rfl Tryz.ntmps222 (by simp) Tryz.results222 (by intro _ h;cases h) fun w0 X hp=>?_
 refine aA ?_
 simp
 refine cB hT hW (fun|9=>some<| .plain ⟨.d (aD (dR s)),true⟩|19=>some<| .plain ⟨.d (.bool (jO s)),true⟩|_=>none) ?_
 simp
 refine⟨⟨⟨fun _=>GB s hl,fun _ _ _=>Fu s⟩,fun h1 h2 h3=>⟨⟨h1,h2⟩,h3⟩⟩,?_⟩
 refine pS.ret ?_
 simp
 rw[Bool.eq_iff_iff]
 simp[cC]
 intro _ _
 omega
end
end Go.Eng
namespace Go.Proofs
open Go.Shelf
def Tryz.idxLay_ren:Go.Shelf.Ren:=⟨fun|217=>206|266=>242|n=>n,fun|9=>9|5=>5|3=>3|n=>n,fun|n=>n⟩
theorem Tryz.idxLay:Go.Proofs.Lays.n217 Tryz.prog Tryz.idxLay_ren:={
 mixed:=by kernel_rfl,
 f217:=Tryz.func206.trans (congrArg some (by kernel_rfl)),
 f266:=Tryz.func242.trans (congrArg some (by kernel_rfl)),
 t3:=Tryz.underlying3,
 a3:=Tryz.isAgg3,
 z3:=Tryz.sizeOf3,
 v3:=Tryz.zeroValue3,
 t5:=Tryz.underlying5,
 a5:=Tryz.isAgg5,
 z5:=Tryz.sizeOf5,
 v5:=Tryz.zeroValue5,
 t9:=Tryz.underlying9,
 a9:=Tryz.isAgg9,
 z9:=Tryz.sizeOf9,
 v9:=Tryz.zeroValue9}
end Go.Proofs
namespace Go.Eng
open Go.Proofs
attribute[local simp] nP lH gR bA oC gK gS pE cY bD pL.plain pL.cond pL.fail dU mN tQ nO gC kQ kW lR memless nD eV jD uG EJ gQ fJ strip pD eD mC bW
 qY fZ iR gT iQ pU lk cH dX bQ cA bY oL fE pY iU jF bS eW bN dM gM fL fM eI fN gX gY gZ fO eJ fP eL fQ hU hZ iC iD fR iG oY oJ mkAgg tP BO jN bB gN aW.live TK.isNone TK.agg TK.isBool TK.isStr TK.isStruct Op.operands Call.operands
 bF cV cO dF eP oK lN cN dN iO fA kY aQ frozen lS
 jT jU lU gV jW jX jY kD lV gW kF kG kH kJ sE mM oO oP oS oT oV kK jR gU fK Nm.d Df.d Ed.d yV yW mK yX jS sL sM dK dL
 yY yZ sF zA zB sG sH sI oW zC zD sJ
 bZ aZ dP mB dQ bT cI bP eZ uJ TK.isInt jV kE oQ iB gP dO eX eY gE fD gB mO sZ nU yU sD
 nS kX mX nR cS eF dY lJ jG jH iV tF iH dJ iI iJ cH kA kC oN iW iK kL iE iF fT
 cP gO TK.isPtr eR cE kM qB qO jZ kI oU hO iA fS
attribute[local simp] eM kN iL
section
attribute[local simp] pL.cond Nd.d_eq nd_t nd_dr nd_td ndsD bG
def wJ(c:UInt8)(s:aN):Int:=match lI c s with|some q=>q.1.length|none=> -1
theorem KW(c:UInt8):∀s:aN,Lib.indexByte s c=wJ c s
 |[]=>rfl
 |d::r=>by
  have ih:=KW c r
  unfold Lib.indexByte wJ lI
  unfold wJ at ih
  by_cases h:d=c
  ·simp[h]
  ·rw[if_neg h]
   rw[if_neg (by simpa using h)]
   rw[ih]
   cases lI c r with
   |none=>simp
   |some q=>
    simp only[Option.map_some,List.length_cons]
    rw[if_neg (by simp)]
    rfl
theorem BE{c:UInt8}{s:aN}{q:aN×aN}(h:lI c s=some q):s.take q.1.length=q.1∧s.drop (q.1.length+1)=q.2∧q.1.length+1+q.2.length=s.length:=by
 have e:=DL (a:=q.1) (b:=q.2) h
 rw[e]
 refine⟨by simp,?_,by simp;omega⟩
 rw[show q.1.length+1=(q.1++[c]).length by simp,show q.1++c::q.2=(q.1++[c])++q.2 by simp,List.drop_left]
theorem AK(s:aN)(c:UInt8):Ok Tryz.prog 206 [.str s,.int .u8 (c.toNat:Int)] ⟨.d (aD (wJ c s)),true⟩:=by
 refine⟨⟨_,Tryz.func206,by kernel_rfl,rfl⟩,fun w X vs hX hr=>?_⟩
 match vs,hr.1 with
 |[u,v],_=>
  have h1:=hr.2 0 _ _ rfl rfl
  have h2:=hr.2 1 _ _ rfl rfl
  cases h1;cases h2
  refine(Go.Proofs.Any.stringslite_IndexByte Tryz.idxLay ⟨s.toArray⟩ (c.toNat:Int) w).mono ?_
  rintro e w' ⟨rfl,rfl⟩
  refine⟨_,rfl,Hb.refl _ _,none,?_⟩
  have e:((c.toNat:Int).toNat.toUInt8)=c:=by simp
  rw[e]
  simp only[]
  rw[KW]
  exact .int _ _
theorem Mn(s:aN)(c:UInt8)(hl:s.length≤9223372036854775807):Ok Tryz.prog 231 [.str s,.str [c]] ⟨.d (aD (wJ c s)),true⟩:=by
 refine Ok.ret Tryz.func231 (by kernel_rfl) (c:=_) rfl Tryz.ntmps231 (by simp) Tryz.results231 (by intro _ h;cases h) fun w0 X hp=>?_
 refine aA ?_
 simp
 refine aA ?_
 simp
 refine pS.seq ?_
 refine pS.block ?_
 refine aA ?_
 simp
 refine aC ?_
 simp
 refine⟨fun g=>?_,fun g=>?_⟩
 ·refine aA ?_
  simp
  refine pS.ret ?_
  simp[←g,wJ,lI]
 ·refine aA ?_
  simp
  refine aC ?_
  simp
  refine pS.seq ?_
  have hi:=AK s c
  refine pS.ro hT hW (fun|30=>some<| .plain ⟨.d (aD (wJ c s)),true⟩|_=>none) ?_
  simp
  refine⟨hi,?_⟩
  refine pS.ret ?_
  simp
def CL(c:UInt8)(s:aN):aN:=match lI c s with|some q=>q.1|none=>s
def CM(c:UInt8)(s:aN):aN:=match lI c s with|some q=>q.2|none=>[]
def Cl(c:UInt8)(s:aN):Bool:=(lI c s).isSome
theorem Qz(s:aN)(c:UInt8)(hl:s.length≤9223372036854775807):Ok Tryz.prog 188 [.str s,.str [c]] ⟨.tup [.d (.str (CL c s)),.d (.str (CM c s)),.d (.bool (Cl c s))],true⟩:=by
 refine Gr hT Tryz.func188 (by kernel_rfl) (c:=_) rfl Tryz.ntmps188 (by simp) Tryz.results188 (by simp) (by rfl) fun w0 X hp=>?_
 refine aA ?_
 simp
 refine pS.seq ?_
 refine pS.seq ?_
 have hi:=Mn s c hl
 refine pS.ro hT hW (fun|10=>some<| .plain ⟨.d (aD (wJ c s)),true⟩|_=>none) ?_
 simp
 refine⟨hi,?_⟩
 refine aA ?_
 simp
 refine aC ?_
 simp
 refine⟨fun h2=>?_,fun h2=>?_⟩
 ·refine pS.seq ?_
  obtain⟨q,hq⟩:∃q,lI c s=some q:=by
   unfold wJ at h2
   cases e:lI c s with
   |none=>rw[e]at h2;simp at h2
   |some q=>exact⟨q,rfl⟩
  have hx:wJ c s=(q.1.length:Int):=by unfold wJ;rw[hq]
  obtain⟨p1,p2,p3⟩:=BE hq
  refine aI hT hW bU (lk [[],[],[0,1],[],[],[],[5],[4,5,6],[3,4,5,6,7],[0,1,2],[0,1,2,3,4,5,6,7,8,9],[0,1,2,3,4,5,6,7,8,9,10]]) (lk [[],[],[],[],[],[],[],[],[],[],[],[]]) (lk [[],[],[],[],[],[],[],[],[],[],[],[]]) (by kernel_rfl) (fun _=>none) (fun _=>⟨rfl,fun _ h=>h⟩) ?_
  simp[hx,p1,p2]
  refine⟨⟨⟨by omega,by omega,by omega⟩,by omega,by omega⟩,?_⟩
  refine pS.ret ?_
  simp[CL,CM,Cl,hq]
 ·refine pS.skip ?_
  simp
  refine aA ?_
  simp
  refine pS.ret ?_
  have hn:lI c s=none:=by
   unfold wJ at h2
   cases e:lI c s with
   |none=>rfl
   |some q=>rw[e]at h2;simp at h2;omega
  simp[CL,CM,Cl,hn]
theorem RQ(s:aN)(c:UInt8)(hl:s.length≤9223372036854775807):Ok Tryz.prog 137 [.str s,.str [c]] ⟨.tup [.d (.str (CL c s)),.d (.str (CM c s)),.d (.bool (Cl c s))],true⟩:=by
 refine Gr hT Tryz.func137 (by kernel_rfl) (c:=_) rfl Tryz.ntmps137 (by simp) Tryz.results137 (by simp) (by rfl) fun w0 X hp=>?_
 refine aA ?_
 simp
 refine pS.seq ?_
 have hi:=Qz s c hl
 refine pS.ro hT hW (fun|9=>some<| .plain ⟨.tup [.d (.str (CL c s)),.d (.str (CM c s)),.d (.bool (Cl c s))],true⟩|_=>none) ?_
 simp[cX]
 refine⟨hi,?_⟩
 refine pS.ret ?_
 simp
end
open Go.Proofs
section
attribute[local simp] pL.cond Nd.d_eq nd_t nd_dr nd_td ndsD
theorem uB(l:aN):l.isEmpty=decide (l=[]):=by cases l<;>simp
def OE(l:List (Int×Int)):List DV:=l.flatMap fun p=>[aD p.1,aD p.2]
theorem Ia:EH=OE nH:=by kernel_rfl
theorem Fv:EH.length=74:=by kernel_rfl
theorem GC:∀(l:List (Int×Int)) (k:Nat),k<l.length→(OE l)[k*2]?.getD default=aD (l.getD k (0,0)).1∧(OE l)[k*2+1]?.getD default=aD (l.getD k (0,0)).2
 |p::l,0,_=>⟨rfl,rfl⟩
 |p::l,k+1,h=>by
  have ih:=GC l k (by simpa using h)
  have e:OE (p::l)=aD p.1::aD p.2::OE l:=rfl
  rw[e,show(k+1)*2=k*2+1+1 by omega]
  exact ih
theorem Ib{k:Int}(h:0≤k∧k<37):EH[k.toNat*2]?.getD default=aD (dZ k):=by
 rw[Ia];exact(GC nH k.toNat (by rw[DD];omega)).1
theorem Ic{k:Int}(h:0≤k∧k<37):EH[k.toNat*2+1]?.getD default=aD (eC k):=by
 rw[Ia];exact(GC nH k.toNat (by rw[DD];omega)).2
theorem OF(c:UInt8)(s:aN):(CL c s).length≤s.length:=by
 unfold CL
 cases h:lI c s with
 |none=>simp
 |some q=>have:=BE h;simp;omega
theorem OG(c:UInt8)(s:aN):(CM c s).length≤s.length:=by
 unfold CM
 cases h:lI c s with
 |none=>simp
 |some q=>have:=BE h;simp;omega
theorem yN(t:aN):xA t=(Cl 46 t&&cC (CL 46 t) true&&cC (CM 46 t) true):=by
 unfold xA Cl CL CM
 cases lI 46 t with
 |none=>rfl
 |some q=>rfl
theorem Mo(x:Nd)(hk:0≤x.kind∧x.kind<37)(hl:x.text.length≤9223372036854775807):Ok Tryz.prog 165 [x.d] ⟨.d (.bool (jP x)),true⟩:=by
 refine Ok.ret Tryz.func165 (by kernel_rfl) (c:=_) rfl Tryz.ntmps165 (by simp) Tryz.results165 (by intro _ h;cases h) fun w0 X hp=>?_
 refine aA ?_
 simp
 refine pS.seq ?_
 refine pS.seq ?_
 have hg1:=Ib hk
 have hg2:=Ic hk
 have hg3:=Fv
 refine aI hT hW bU (lk [[],[0],[],[2],[2,3],[2,3,4],[2,3,4,5],[0,1,2,3,4,5,6],[0,1,2,3,4,5,6,7],[0,1,2,3,4,5,6,7,8],[0,1,2,3,4,5,6,7,8,9],[0,1,2,3,4,5,6,7,8],[0,1,2,3,4,5,6,7,8,11],[0,1,2,3,4,5,6,7,8,11,12],[0,1,2,3,4,5,6,7,8,11,12,13],[0,1,2,3,4,5,6,7,8,11,12,13,14],[0,1,2,3,4,5,6,7,8,9,10,11,12,13,14,15],[0,1,2,3,4,5,6,7,8,9,10,11,12,13,14,15,16]]) (lk [[],[],[],[],[],[],[],[],[],[],[],[],[],[],[],[],[],[]]) (lk [[],[],[],[],[],[],[],[],[],[],[],[],[],[],[],[],[],[]]) (by kernel_rfl) (fun _=>none) (fun _=>⟨rfl,fun _ h=>h⟩) ?_
 simp[hg1,hg2]
 refine⟨⟨⟨⟨hk,by omega⟩,fun _=>hk⟩,fun _=>by omega⟩,?_⟩
 refine aC ?_
 simp
 refine⟨fun g=>?_,fun g1 g2=>?_⟩
 ·refine aA ?_
  simp
  refine pS.ret ?_
  simp
  unfold jP lE
  rw[Bool.eq_false_iff]
  intro h
  simp only[Bool.and_eq_true,decide_eq_true_eq]at h
  omega
 ·refine pS.skip ?_
  simp
  refine pS.seq ?_
  refine aA ?_
  simp
  refine pS.block ?_
  refine aT (ι:=BC) (fun⟨b⟩=>aY [(1,.bx 1 0),(25,.d (aD x.kind)),(26,.d (.bool b))]) (fun⟨b⟩=>aK [(1,.box false [.d (aD x.kind),.d (.str x.text),.d (aD x.n),.d (ndsD x.kids)])]) (fun⟨b⟩=>b=true↔(x.kind=9∨x.kind=19∨x.kind=20∨x.kind=33)) ?_ fun⟨b⟩ hc8=>?_
  ·refine aA ?_
   simp
   refine aC ?_
   simp
   refine⟨fun h4=>?_,fun h4=>?_⟩
   ·refine pS.skip ?_
    simp
    refine Qo.mk ⟨decide (x.kind=9)⟩ (aB [1,25,26] [(1,1)] (by decide) (by decide) (by simp[hp]) (by simp) (by simp)) ?_
    simp[h4]
   ·refine aA ?_
    simp
    refine aC ?_
    simp
    refine⟨fun h5=>?_,fun h5=>?_⟩
    ·refine pS.skip ?_
     simp
     refine Qo.mk ⟨decide (x.kind=19)⟩ (aB [1,25,26] [(1,1)] (by decide) (by decide) (by simp[hp]) (by simp) (by simp)) ?_
     simp[h5]
    ·refine aA ?_
     simp
     refine aC ?_
     simp
     refine⟨fun h6=>?_,fun h6=>?_⟩
     ·refine pS.skip ?_
      simp
      refine Qo.mk ⟨decide (x.kind=20)⟩ (aB [1,25,26] [(1,1)] (by decide) (by decide) (by simp[hp]) (by simp) (by simp)) ?_
      simp[h6]
     ·refine aL ?_
      simp
      refine Qo.mk ⟨decide (x.kind=33)⟩ (aB [1,25,26] [(1,1)] (by decide) (by decide) (by simp[hp]) (by simp) (by simp)) ?_
      simp only[decide_eq_true_eq];omega
  ·refine aC ?_
   simp
   refine⟨fun h8=>?_,fun h8=>?_⟩
   ·have q8:=hc8.1 h8
    refine pS.seq ?_
    have hw:=AJ x.text false hl
    refine pS.ro hT hW (fun|33=>some<| .plain ⟨.d (.bool (cC x.text false)),true⟩|_=>none) ?_
    simp
    refine⟨hw,?_⟩
    refine pS.ret ?_
    simp
    unfold jP lE jK
    simp only[g1,g2,decide_true,Bool.true_and]
    repeat(first|rw[if_pos (by omega)]|rw[if_neg (by omega)])
    try rw[yN]
    try simp
    try exact uB _
   ·have q8:¬(x.kind=9∨x.kind=19∨x.kind=20∨x.kind=33):=fun q=>by simp[hc8.2 q]at h8
    refine aA ?_
    simp
    refine aC ?_
    simp
    refine⟨fun h9=>?_,fun h9=>?_⟩
    ·refine pS.seq ?_
     have hc:=RQ x.text 46 hl
     refine pS.ro hT hW (fun|39=>some<| .plain ⟨.tup [.d (.str (CL 46 x.text)),.d (.str (CM 46 x.text)),.d (.bool (Cl 46 x.text))],true⟩|_=>none) ?_
     simp[cX]
     refine⟨hc,?_⟩
     refine pS.seq ?_
     have hw1:=AJ (CL 46 x.text) true (by have:=OF 46 x.text;omega)
     have hw2:=AJ (CM 46 x.text) true (by have:=OG 46 x.text;omega)
     refine pS.ro hT hW (fun|46=>some<| .plain ⟨.d (.bool (cC (CL 46 x.text) true)),true⟩|50=>some<| .plain ⟨.d (.bool (cC (CM 46 x.text) true)),true⟩|_=>none) ?_
     simp
     refine⟨⟨fun _=>hw1,fun _ _=>hw2⟩,?_⟩
     refine pS.ret ?_
     simp
     unfold jP lE jK
     simp only[g1,g2,decide_true,Bool.true_and]
     repeat(first|rw[if_pos (by omega)]|rw[if_neg (by omega)])
     try rw[yN]
     try simp
     try exact uB _
    ·refine aT (ι:=BC) (fun⟨b⟩=>aY [(1,.bx 1 0),(25,.d (aD x.kind)),(52,.d (.bool b))]) (fun⟨b⟩=>aK [(1,.box false [.d (aD x.kind),.d (.str x.text),.d (aD x.n),.d (ndsD x.kids)])]) (fun⟨b⟩=>b=true↔(x.kind=8∨x.kind=10∨x.kind=11∨x.kind=12∨x.kind=21∨x.kind=24∨x.kind=25∨x.kind=26∨x.kind=27∨x.kind=28∨x.kind=29∨x.kind=30∨x.kind=31∨x.kind=32∨x.kind=36)) ?_ fun⟨b⟩ hc27=>?_
     ·refine aA ?_
      simp
      refine aC ?_
      simp
      refine⟨fun h12=>?_,fun h12=>?_⟩
      ·refine pS.skip ?_
       simp
       refine Qo.mk ⟨decide (x.kind=8)⟩ (aB [1,25,52] [(1,1)] (by decide) (by decide) (by simp[hp]) (by simp) (by simp)) ?_
       simp[h12]
      ·refine aA ?_
       simp
       refine aC ?_
       simp
       refine⟨fun h13=>?_,fun h13=>?_⟩
       ·refine pS.skip ?_
        simp
        refine Qo.mk ⟨decide (x.kind=10)⟩ (aB [1,25,52] [(1,1)] (by decide) (by decide) (by simp[hp]) (by simp) (by simp)) ?_
        simp[h13]
       ·refine aA ?_
        simp
        refine aC ?_
        simp
        refine⟨fun h14=>?_,fun h14=>?_⟩
        ·refine pS.skip ?_
         simp
         refine Qo.mk ⟨decide (x.kind=11)⟩ (aB [1,25,52] [(1,1)] (by decide) (by decide) (by simp[hp]) (by simp) (by simp)) ?_
         simp[h14]
        ·refine aA ?_
         simp
         refine aC ?_
         simp
         refine⟨fun h15=>?_,fun h15=>?_⟩
         ·refine pS.skip ?_
          simp
          refine Qo.mk ⟨decide (x.kind=12)⟩ (aB [1,25,52] [(1,1)] (by decide) (by decide) (by simp[hp]) (by simp) (by simp)) ?_
          simp[h15]
         ·refine aA ?_
          simp
          refine aC ?_
          simp
          refine⟨fun h16=>?_,fun h16=>?_⟩
          ·refine pS.skip ?_
           simp
           refine Qo.mk ⟨decide (x.kind=21)⟩ (aB [1,25,52] [(1,1)] (by decide) (by decide) (by simp[hp]) (by simp) (by simp)) ?_
           simp[h16]
          ·refine aA ?_
           simp
           refine aC ?_
           simp
           refine⟨fun h17=>?_,fun h17=>?_⟩
           ·refine pS.skip ?_
            simp
            refine Qo.mk ⟨decide (x.kind=24)⟩ (aB [1,25,52] [(1,1)] (by decide) (by decide) (by simp[hp]) (by simp) (by simp)) ?_
            simp[h17]
           ·refine aA ?_
            simp
            refine aC ?_
            simp
            refine⟨fun h18=>?_,fun h18=>?_⟩
            ·refine pS.skip ?_
             simp
             refine Qo.mk ⟨decide (x.kind=25)⟩ (aB [1,25,52] [(1,1)] (by decide) (by decide) (by simp[hp]) (by simp) (by simp)) ?_
             simp[h18]
            ·refine aA ?_
             simp
             refine aC ?_
             simp
             refine⟨fun h19=>?_,fun h19=>?_⟩
             ·refine pS.skip ?_
              simp
              refine Qo.mk ⟨decide (x.kind=26)⟩ (aB [1,25,52] [(1,1)] (by decide) (by decide) (by simp[hp]) (by simp) (by simp)) ?_
              simp[h19]
             ·refine aA ?_
              simp
              refine aC ?_
              simp
              refine⟨fun h20=>?_,fun h20=>?_⟩
              ·refine pS.skip ?_
               simp
               refine Qo.mk ⟨decide (x.kind=27)⟩ (aB [1,25,52] [(1,1)] (by decide) (by decide) (by simp[hp]) (by simp) (by simp)) ?_
               simp[h20]
              ·refine aA ?_
               simp
               refine aC ?_
               simp
               refine⟨fun h21=>?_,fun h21=>?_⟩
               ·refine pS.skip ?_
                simp
                refine Qo.mk ⟨decide (x.kind=28)⟩ (aB [1,25,52] [(1,1)] (by decide) (by decide) (by simp[hp]) (by simp) (by simp)) ?_
                simp[h21]
               ·refine aA ?_
                simp
                refine aC ?_
                simp
                refine⟨fun h22=>?_,fun h22=>?_⟩
                ·refine pS.skip ?_
                 simp
                 refine Qo.mk ⟨decide (x.kind=29)⟩ (aB [1,25,52] [(1,1)] (by decide) (by decide) (by simp[hp]) (by simp) (by simp)) ?_
                 simp[h22]
                ·refine aA ?_
                 simp
                 refine aC ?_
                 simp
                 refine⟨fun h23=>?_,fun h23=>?_⟩
                 ·refine pS.skip ?_
                  simp
                  refine Qo.mk ⟨decide (x.kind=30)⟩ (aB [1,25,52] [(1,1)] (by decide) (by decide) (by simp[hp]) (by simp) (by simp)) ?_
                  simp[h23]
                 ·refine aA ?_
                  simp
                  refine aC ?_
                  simp
                  refine⟨fun h24=>?_,fun h24=>?_⟩
                  ·refine pS.skip ?_
                   simp
                   refine Qo.mk ⟨decide (x.kind=31)⟩ (aB [1,25,52] [(1,1)] (by decide) (by decide) (by simp[hp]) (by simp) (by simp)) ?_
                   simp[h24]
                  ·refine aA ?_
                   simp
                   refine aC ?_
                   simp
                   refine⟨fun h25=>?_,fun h25=>?_⟩
                   ·refine pS.skip ?_
                    simp
                    refine Qo.mk ⟨decide (x.kind=32)⟩ (aB [1,25,52] [(1,1)] (by decide) (by decide) (by simp[hp]) (by simp) (by simp)) ?_
                    simp[h25]
                   ·refine aL ?_
                    simp
                    refine Qo.mk ⟨decide (x.kind=36)⟩ (aB [1,25,52] [(1,1)] (by decide) (by decide) (by simp[hp]) (by simp) (by simp)) ?_
                    simp only[decide_eq_true_eq];omega
     ·refine aC ?_
      simp
      refine⟨fun h27=>?_,fun h27=>?_⟩
      ·have q27:=hc27.1 h27
       refine aA ?_
       simp
       refine pS.ret ?_
       simp
       unfold jP lE jK
       simp only[g1,g2,decide_true,Bool.true_and]
       repeat(first|rw[if_pos (by omega)]|rw[if_neg (by omega)])
       try rw[yN]
       try simp
       try exact uB _
      ·have q27:¬(x.kind=8∨x.kind=10∨x.kind=11∨x.kind=12∨x.kind=21∨x.kind=24∨x.kind=25∨x.kind=26∨x.kind=27∨x.kind=28∨x.kind=29∨x.kind=30∨x.kind=31∨x.kind=32∨x.kind=36):=fun q=>by simp[hc27.2 q]at h27
       refine pS.skip ?_
       simp
       refine pS.seq ?_
       have hw:=AJ x.text true hl
       refine pS.ro hT hW (fun|73=>some<| .plain ⟨.d (.bool (cC x.text true)),true⟩|_=>none) ?_
       simp
       refine⟨hw,?_⟩
       refine pS.ret ?_
       simp
       unfold jP lE jK
       simp only[g1,g2,decide_true,Bool.true_and]
       repeat(first|rw[if_pos (by omega)]|rw[if_neg (by omega)])
       try rw[yN]
       try simp
       try exact uB _
end
end Go.Eng
