/-
  Texts that the claim rests on, merged: Tb, ReadD.
-/
import Derived.Test.YtkinkfieackmdaaGreatProg
import Derived.Test.YtkinkfieackmdaaGreatZRowStr1
import Derived.Test.YtkinkfieackmdaaGreatZRowStr12

namespace Go.Proofs.YtkinkfieackmdaaGreat.Den
open Go.RowKit
def tbl :List (Nat×TI):=[
 (1,⟨1,false,[.z],[],none,false,false,false,none,none⟩),
 (2,⟨1,false,[.i 0],[],none,false,true,false,some .i64,none⟩),
 (3,⟨1,false,[.i 0],[],none,false,true,false,some .i64,none⟩),
 (4,⟨1,false,[.b false],[],none,false,false,true,none,none⟩),
 (5,⟨1,false,[.k .u8 0],[],none,false,false,false,some .u8,none⟩),
 (6,⟨1,false,[.k .u8 0],[],none,false,false,false,some .u8,none⟩),
 (7,⟨4,true,[.i 0,.i 0,.b false,.k .u8 0],[(0,2,1),(1,3,1),(2,4,1),(3,6,1)],none,false,false,false,none,none⟩),
 (8,⟨4,true,[.i 0,.i 0,.b false,.k .u8 0],[(0,2,1),(1,3,1),(2,4,1),(3,6,1)],none,false,false,false,none,none⟩),
 (9,⟨1,false,[.s ByteArray.empty],[],none,true,false,false,none,none⟩),
 (10,⟨1,false,[.s ByteArray.empty],[],none,true,false,false,none,none⟩),
 (11,⟨1,false,[.s ByteArray.empty],[],none,true,false,false,none,none⟩),
 (12,⟨1,false,[.k .u64 0],[],none,false,false,false,some .u64,none⟩),
 (13,⟨2,true,[.s ByteArray.empty,.k .u64 0],[(0,9,1),(1,12,1)],none,false,false,false,none,none⟩),
 (14,⟨2,true,[.s ByteArray.empty,.k .u64 0],[(0,9,1),(1,12,1)],none,false,false,false,none,none⟩),
 (15,⟨1,false,[.z],[],none,false,false,false,none,none⟩),
 (16,⟨1,false,[.z],[],none,false,false,false,none,none⟩),
 (17,⟨1,false,[.z],[],none,false,false,false,none,none⟩),
 (18,⟨1,true,[.z],[(0,17,1)],none,false,false,false,none,none⟩),
 (19,⟨1,true,[.z],[(0,17,1)],none,false,false,false,none,none⟩),
 (21,⟨1,false,[.k .i32 0],[],none,false,false,false,some .i32,none⟩),
 (22,⟨1,false,[.nil .s],[],some .s,false,false,false,none,none⟩),
 (23,⟨1,false,[.nil (.n 5)],[],some (.n 5),false,false,false,none,none⟩),
 (24,⟨2,true,[.nil .s,.nil (.n 5)],[(0,22,1),(1,23,1)],none,false,false,false,none,none⟩),
 (25,⟨2,true,[.nil .s,.nil (.n 5)],[(0,22,1),(1,23,1)],none,false,false,false,none,none⟩),
 (26,⟨1,false,[.nil (.n 8)],[],some (.n 8),false,false,false,none,none⟩),
 (27,⟨3,true,[.nil .s,.nil (.n 5),.nil (.n 8)],[(0,25,2),(2,26,1)],none,false,false,false,none,none⟩),
 (28,⟨3,true,[.nil .s,.nil (.n 5),.nil (.n 8)],[(0,25,2),(2,26,1)],none,false,false,false,none,none⟩),
 (29,⟨1,false,[.nil (.n 14)],[],some (.n 14),false,false,false,none,none⟩),
 (30,⟨5,true,[.nil .s,.nil (.n 5),.nil (.n 8),.nil (.n 14),.nil (.n 14)],[(0,28,3),(3,29,1),(4,29,1)],none,false,false,false,none,none⟩),
 (31,⟨5,true,[.nil .s,.nil (.n 5),.nil (.n 8),.nil (.n 14),.nil (.n 14)],[(0,28,3),(3,29,1),(4,29,1)],none,false,false,false,none,none⟩),
 (32,⟨1,false,[.nil (.n 1)],[],some (.n 1),false,false,false,none,none⟩),
 (33,⟨4,true,[.i 0,.s ByteArray.empty,.i 0,.nil (.n 1)],[(0,3,1),(1,9,1),(2,3,1),(3,32,1)],none,false,false,false,none,none⟩),
 (34,⟨4,true,[.i 0,.s ByteArray.empty,.i 0,.nil (.n 1)],[(0,3,1),(1,9,1),(2,3,1),(3,32,1)],none,false,false,false,none,none⟩),
 (35,⟨1,false,[.nil (.n 16)],[],some (.n 16),false,false,false,none,none⟩),
 (36,⟨7,true,[.i 0,.i 0,.i 0,.s ByteArray.empty,.i 0,.nil (.n 1),.nil (.n 16)],[(0,3,1),(1,3,1),(2,34,4),(6,35,1)],none,false,false,false,none,none⟩),
 (37,⟨7,true,[.i 0,.i 0,.i 0,.s ByteArray.empty,.i 0,.nil (.n 1),.nil (.n 16)],[(0,3,1),(1,3,1),(2,34,4),(6,35,1)],none,false,false,false,none,none⟩),
 (38,⟨1,false,[.z],[],none,false,false,false,none,none⟩),
 (39,⟨1,false,[.z],[],none,false,false,false,none,none⟩),
 (40,⟨1,false,[.z],[],none,false,false,false,none,none⟩),
 (41,⟨1,false,[.nil (.n 5)],[],some (.n 5),false,false,false,none,none⟩),
 (42,⟨2,true,[.nil .s,.nil (.n 5)],[(0,22,1),(1,41,1)],none,false,false,false,none,none⟩),
 (43,⟨2,true,[.nil .s,.nil (.n 5)],[(0,22,1),(1,41,1)],none,false,false,false,none,none⟩),
 (44,⟨1,false,[.nil (.n 8)],[],some (.n 8),false,false,false,none,none⟩),
 (45,⟨3,true,[.nil .s,.nil (.n 5),.nil (.n 8)],[(0,43,2),(2,44,1)],none,false,false,false,none,none⟩),
 (46,⟨3,true,[.nil .s,.nil (.n 5),.nil (.n 8)],[(0,43,2),(2,44,1)],none,false,false,false,none,none⟩),
 (47,⟨1,false,[.nil (.n 14)],[],some (.n 14),false,false,false,none,none⟩),
 (48,⟨5,true,[.nil .s,.nil (.n 5),.nil (.n 8),.nil (.n 14),.nil (.n 14)],[(0,46,3),(3,47,1),(4,47,1)],none,false,false,false,none,none⟩),
 (49,⟨5,true,[.nil .s,.nil (.n 5),.nil (.n 8),.nil (.n 14),.nil (.n 14)],[(0,46,3),(3,47,1),(4,47,1)],none,false,false,false,none,none⟩),
 (50,⟨1,false,[.z],[],none,false,false,false,none,none⟩),
 (51,⟨1,false,[.nil (.n 1)],[],some (.n 1),false,false,false,none,none⟩),
 (52,⟨4,true,[.i 0,.s ByteArray.empty,.i 0,.nil (.n 1)],[(0,3,1),(1,9,1),(2,3,1),(3,51,1)],none,false,false,false,none,none⟩),
 (53,⟨4,true,[.i 0,.s ByteArray.empty,.i 0,.nil (.n 1)],[(0,3,1),(1,9,1),(2,3,1),(3,51,1)],none,false,false,false,none,none⟩),
 (54,⟨1,false,[.nil (.n 16)],[],some (.n 16),false,false,false,none,none⟩),
 (55,⟨7,true,[.i 0,.i 0,.i 0,.s ByteArray.empty,.i 0,.nil (.n 1),.nil (.n 16)],[(0,3,1),(1,3,1),(2,53,4),(6,54,1)],none,false,false,false,none,none⟩),
 (56,⟨7,true,[.i 0,.i 0,.i 0,.s ByteArray.empty,.i 0,.nil (.n 1),.nil (.n 16)],[(0,3,1),(1,3,1),(2,53,4),(6,54,1)],none,false,false,false,none,none⟩),
 (57,⟨1,false,[.z],[],none,false,false,false,none,none⟩),
 (58,⟨1,false,[.z],[],none,false,false,false,none,none⟩),
 (59,⟨1,false,[.z],[],none,false,false,false,none,none⟩),
 (60,⟨1,false,[.z],[],none,false,false,false,none,none⟩),
 (61,⟨1,false,[.z],[],none,false,false,false,none,none⟩),
 (62,⟨1,false,[.nil (.n 13)],[],some (.n 13),false,false,false,none,none⟩),
 (63,⟨9,true,[.i 0,.s ByteArray.empty,.i 0,.nil (.n 1),.i 0,.s ByteArray.empty,.i 0,.nil (.n 1),.nil (.n 13)],[(0,53,4),(4,53,4),(8,62,1)],none,false,false,false,none,none⟩),
 (64,⟨9,true,[.i 0,.s ByteArray.empty,.i 0,.nil (.n 1),.i 0,.s ByteArray.empty,.i 0,.nil (.n 1),.nil (.n 13)],[(0,53,4),(4,53,4),(8,62,1)],none,false,false,false,none,none⟩),
 (66,⟨1,false,[.z],[],none,false,false,false,none,none⟩),
 (67,⟨1,false,[.z],[],none,false,false,false,none,none⟩),
 (68,⟨1,false,[.z],[],none,false,false,false,none,none⟩),
 (69,⟨1,false,[.z],[],none,false,false,false,none,none⟩),
 (70,⟨1,false,[.z],[],none,false,false,false,none,none⟩),
 (71,⟨1,false,[.z],[],none,false,false,false,none,none⟩),
 (72,⟨1,false,[.z],[],none,false,false,false,none,none⟩),
 (73,⟨1,false,[.z],[],none,false,false,false,none,none⟩),
 (74,⟨1,false,[.z],[],none,false,false,false,none,none⟩),
 (75,⟨1,false,[.z],[],none,false,false,false,none,none⟩),
 (76,⟨1,false,[.z],[],none,false,false,false,none,none⟩),
 (77,⟨1,false,[.z],[],none,false,false,false,none,none⟩),
 (78,⟨1,false,[.z],[],none,false,false,false,none,none⟩),
 (79,⟨1,false,[.z],[],none,false,false,false,none,none⟩),
 (80,⟨1,false,[.z],[],none,false,false,false,none,none⟩),
 (81,⟨1,false,[.z],[],none,false,false,false,none,none⟩),
 (82,⟨1,false,[.z],[],none,false,false,false,none,none⟩),
 (83,⟨1,false,[.z],[],none,false,false,false,none,none⟩),
 (85,⟨1,false,[.z],[],none,false,false,false,none,none⟩),
 (86,⟨1,false,[.z],[],none,false,false,false,none,none⟩),
 (87,⟨1,false,[.z],[],none,false,false,false,none,none⟩),
 (88,⟨1,false,[.z],[],none,false,false,false,none,none⟩),
 (89,⟨1,false,[.z],[],none,false,false,false,none,none⟩),
 (90,⟨1,false,[.z],[],none,false,false,false,none,none⟩),
 (91,⟨1,false,[.z],[],none,false,false,false,none,none⟩),
 (93,⟨1,false,[.z],[],none,false,false,false,none,none⟩),
 (95,⟨1,false,[.z],[],none,false,false,false,none,none⟩),
 (96,⟨8,true,[.i 0,.s ByteArray.empty,.i 0,.nil (.n 1),.i 0,.s ByteArray.empty,.i 0,.nil (.n 1)],[(0,53,4),(4,53,4)],none,false,false,false,none,none⟩),
 (97,⟨8,true,[.i 0,.s ByteArray.empty,.i 0,.nil (.n 1),.i 0,.s ByteArray.empty,.i 0,.nil (.n 1)],[(0,53,4),(4,53,4)],none,false,false,false,none,none⟩),
 (98,⟨1,false,[.z],[],none,false,false,false,none,none⟩),
 (99,⟨1,false,[.z],[],none,false,false,false,none,none⟩),
 (100,⟨1,false,[.z],[],none,false,false,false,none,none⟩),
 (101,⟨1,false,[.z],[],none,false,false,false,none,none⟩),
 (102,⟨1,false,[.z],[],none,false,false,false,none,none⟩),
 (103,⟨1,false,[.z],[],none,false,false,false,none,none⟩),
 (104,⟨1,false,[.z],[],none,false,false,false,none,none⟩),
 (105,⟨1,false,[.z],[],none,false,false,false,none,none⟩),
 (106,⟨1,false,[.z],[],none,false,false,false,none,none⟩),
 (107,⟨1,false,[.z],[],none,false,false,false,none,none⟩),
 (108,⟨1,false,[.z],[],none,false,false,false,none,none⟩),
 (109,⟨1,false,[.z],[],none,false,false,false,none,none⟩),
 (110,⟨1,false,[.nil (.n 13)],[],some (.n 13),false,false,false,none,none⟩),
 (111,⟨9,true,[.i 0,.s ByteArray.empty,.i 0,.nil (.n 1),.i 0,.s ByteArray.empty,.i 0,.nil (.n 1),.nil (.n 13)],[(0,34,4),(4,34,4),(8,110,1)],none,false,false,false,none,none⟩),
 (112,⟨9,true,[.i 0,.s ByteArray.empty,.i 0,.nil (.n 1),.i 0,.s ByteArray.empty,.i 0,.nil (.n 1),.nil (.n 13)],[(0,34,4),(4,34,4),(8,110,1)],none,false,false,false,none,none⟩),
 (113,⟨1,false,[.z],[],none,false,false,false,none,none⟩),
 (114,⟨1,false,[.z],[],none,false,false,false,none,none⟩),
 (115,⟨1,false,[.z],[],none,false,false,false,none,none⟩),
 (116,⟨1,false,[.z],[],none,false,false,false,none,none⟩),
 (117,⟨1,false,[.z],[],none,false,false,false,none,none⟩),
 (118,⟨1,false,[.z],[],none,false,false,false,none,none⟩),
 (119,⟨1,false,[.z],[],none,false,false,false,none,none⟩),
 (120,⟨1,false,[.z],[],none,false,false,false,none,none⟩),
 (121,⟨1,false,[.nil .i],[],some .i,false,false,false,none,none⟩),
 (122,⟨3,true,[.nil .i,.nil .i,.nil .i],[(0,121,1),(1,121,1),(2,121,1)],none,false,false,false,none,none⟩),
 (123,⟨3,true,[.nil .i,.nil .i,.nil .i],[(0,121,1),(1,121,1),(2,121,1)],none,false,false,false,none,none⟩),
 (125,⟨1,false,[.z],[],none,false,false,false,none,none⟩),
 (126,⟨1,false,[.z],[],none,false,false,false,none,some .i⟩),
 (127,⟨7,true,[.nil .i,.nil .i,.nil .i,.nil .s,.nil (.n 5),.nil (.n 8),.z],[(0,123,3),(3,46,3),(6,126,1)],none,false,false,false,none,none⟩),
 (128,⟨7,true,[.nil .i,.nil .i,.nil .i,.nil .s,.nil (.n 5),.nil (.n 8),.z],[(0,123,3),(3,46,3),(6,126,1)],none,false,false,false,none,none⟩),
 (129,⟨1,false,[.z],[],none,false,false,false,none,none⟩),
 (130,⟨1,false,[.z],[],none,false,false,false,none,none⟩),
 (131,⟨1,false,[.z],[],none,false,false,false,none,none⟩),
 (132,⟨1,false,[.z],[],none,false,false,false,none,none⟩),
 (133,⟨1,false,[.z],[],none,false,false,false,none,none⟩),
 (134,⟨1,false,[.z],[],none,false,false,false,none,none⟩),
 (135,⟨1,false,[.z],[],none,false,false,false,none,none⟩),
 (136,⟨1,false,[.nil (.n 7)],[],some (.n 7),false,false,false,none,none⟩),
 (137,⟨5,true,[.s ByteArray.empty,.nil (.n 7),.b false,.b false,.i 0],[(0,9,1),(1,136,1),(2,4,1),(3,4,1),(4,3,1)],none,false,false,false,none,none⟩),
 (138,⟨5,true,[.s ByteArray.empty,.nil (.n 7),.b false,.b false,.i 0],[(0,9,1),(1,136,1),(2,4,1),(3,4,1),(4,3,1)],none,false,false,false,none,none⟩),
 (140,⟨1,false,[.z],[],none,false,false,false,none,none⟩),
 (141,⟨1,false,[.z],[],none,false,false,false,none,none⟩),
 (142,⟨1,false,[.z],[],none,false,false,false,none,none⟩),
 (143,⟨1,false,[.z],[],none,false,false,false,none,none⟩),
 (144,⟨1,false,[.nil (.n 7)],[],some (.n 7),false,false,false,none,none⟩),
 (145,⟨5,true,[.s ByteArray.empty,.nil (.n 7),.b false,.b false,.i 0],[(0,9,1),(1,144,1),(2,4,1),(3,4,1),(4,3,1)],none,false,false,false,none,none⟩),
 (146,⟨5,true,[.s ByteArray.empty,.nil (.n 7),.b false,.b false,.i 0],[(0,9,1),(1,144,1),(2,4,1),(3,4,1),(4,3,1)],none,false,false,false,none,none⟩),
 (147,⟨1,false,[.z],[],none,false,false,false,none,none⟩),
 (148,⟨1,false,[.z],[],none,false,false,false,none,none⟩),
 (149,⟨1,false,[.z],[],none,false,false,false,none,none⟩),
 (150,⟨1,false,[.z],[],none,false,false,false,none,none⟩),
 (151,⟨1,false,[.z],[],none,false,false,false,none,none⟩),
 (152,⟨1,false,[.z],[],none,false,false,false,none,none⟩),
 (153,⟨1,false,[.z],[],none,false,false,false,none,none⟩),
 (154,⟨1,false,[.z],[],none,false,false,false,none,none⟩),
 (155,⟨1,false,[.z],[],none,false,false,false,none,none⟩),
 (156,⟨1,false,[.z],[],none,false,false,false,none,none⟩),
 (157,⟨1,false,[.z],[],none,false,false,false,none,none⟩),
 (158,⟨1,false,[.z],[],none,false,false,false,none,none⟩),
 (159,⟨1,false,[.z],[],none,false,false,false,none,none⟩),
 (160,⟨1,false,[.z],[],none,false,false,false,none,none⟩),
 (161,⟨1,false,[.z],[],none,false,false,false,none,none⟩),
 (162,⟨1,false,[.z],[],none,false,false,false,none,none⟩),
 (163,⟨1,false,[.z],[],none,false,false,false,none,none⟩),
 (164,⟨1,false,[.z],[],none,false,false,false,none,none⟩),
 (165,⟨1,false,[.z],[],none,false,false,false,none,none⟩),
 (166,⟨1,false,[.z],[],none,false,false,false,none,none⟩),
 (167,⟨1,false,[.z],[],none,false,false,false,none,none⟩),
 (168,⟨1,false,[.z],[],none,false,false,false,none,some .b⟩),
 (169,⟨1,false,[.z],[],none,false,false,false,none,none⟩),
 (170,⟨1,false,[.z],[],none,false,false,false,none,none⟩),
 (171,⟨1,false,[.z],[],none,false,false,false,none,none⟩),
 (172,⟨1,false,[.z],[],none,false,false,false,none,none⟩),
 (173,⟨2,true,[.i 0,.i 0],[(0,3,1),(1,3,1)],none,false,false,false,none,none⟩),
 (174,⟨2,true,[.i 0,.i 0],[(0,3,1),(1,3,1)],none,false,false,false,none,none⟩),
 (175,⟨1,false,[.nil (.sl (.n 14))],[],some (.sl (.n 14)),false,false,false,none,none⟩),
 (176,⟨1,false,[.z],[],none,false,false,false,none,none⟩),
 (177,⟨1,false,[.z],[],none,false,false,false,none,none⟩),
 (178,⟨1,false,[.z],[],none,false,false,false,none,none⟩),
 (179,⟨1,false,[.z],[],none,false,false,false,none,none⟩),
 (180,⟨1,false,[.z],[],none,false,false,false,none,none⟩),
 (181,⟨1,false,[.z],[],none,false,false,false,none,none⟩),
 (182,⟨6,true,[.nil .s,.nil (.n 5),.nil (.n 8),.s ByteArray.empty,.i 0,.b false],[(0,46,3),(3,9,1),(4,3,1),(5,4,1)],none,false,false,false,none,none⟩),
 (183,⟨6,true,[.nil .s,.nil (.n 5),.nil (.n 8),.s ByteArray.empty,.i 0,.b false],[(0,46,3),(3,9,1),(4,3,1),(5,4,1)],none,false,false,false,none,none⟩),
 (184,⟨1,false,[.z],[],none,false,false,false,none,none⟩),
 (185,⟨1,false,[.z],[],none,false,false,false,none,none⟩),
 (186,⟨1,false,[.z],[],none,false,false,false,none,none⟩),
 (187,⟨1,false,[.z],[],none,false,false,false,none,none⟩),
 (188,⟨1,false,[.z],[],none,false,false,false,none,none⟩),
 (189,⟨2,true,[.i 0,.i 0],[(0,3,1),(1,3,1)],none,false,false,false,none,none⟩),
 (190,⟨1,false,[.z],[],none,false,false,false,none,none⟩),
 (191,⟨1,false,[.z],[],none,false,false,false,none,none⟩),
 (192,⟨1,false,[.z],[],none,false,false,false,none,none⟩),
 (193,⟨1,false,[.z],[],none,false,false,false,none,none⟩),
 (194,⟨1,false,[.nil .u],[],some .u,false,false,false,none,none⟩),
 (195,⟨1,false,[.z],[],none,false,false,false,none,none⟩),
 (196,⟨2,true,[.nil .i,.i 0],[(0,121,1),(1,3,1)],none,false,false,false,none,none⟩),
 (197,⟨2,true,[.nil .i,.i 0],[(0,121,1),(1,3,1)],none,false,false,false,none,none⟩),
 (198,⟨1,false,[.z],[],none,false,false,false,none,none⟩),
 (199,⟨8,true,[.i 0,.s ByteArray.empty,.i 0,.nil (.n 1),.i 0,.s ByteArray.empty,.i 0,.nil (.n 1)],[(0,34,4),(4,34,4)],none,false,false,false,none,none⟩),
 (200,⟨8,true,[.i 0,.s ByteArray.empty,.i 0,.nil (.n 1),.i 0,.s ByteArray.empty,.i 0,.nil (.n 1)],[(0,34,4),(4,34,4)],none,false,false,false,none,none⟩),
 (201,⟨1,false,[.z],[],none,false,false,false,none,none⟩),
 (202,⟨1,false,[.z],[],none,false,false,false,none,none⟩),
 (203,⟨1,false,[.z],[],none,false,false,false,none,none⟩),
 (204,⟨1,false,[.z],[],none,false,false,false,none,none⟩),
 (205,⟨1,false,[.z],[],none,false,false,false,none,none⟩),
 (206,⟨1,false,[.z],[],none,false,false,false,none,none⟩),
 (207,⟨1,false,[.z],[],none,false,false,false,none,none⟩),
 (208,⟨1,false,[.z],[],none,false,false,false,none,none⟩),
 (209,⟨1,false,[.z],[],none,false,false,false,none,none⟩),
 (210,⟨1,false,[.z],[],none,false,false,false,none,none⟩),
 (211,⟨1,false,[.z],[],none,false,false,false,none,none⟩),
 (212,⟨1,false,[.z],[],none,false,false,false,none,none⟩),
 (213,⟨1,false,[.z],[],none,false,false,false,none,none⟩),
 (214,⟨1,false,[.z],[],none,false,false,false,none,none⟩),
 (215,⟨1,false,[.z],[],none,false,false,false,none,none⟩),
 (216,⟨1,false,[.z],[],none,false,false,false,none,none⟩),
 (217,⟨1,false,[.z],[],none,false,false,false,none,none⟩),
 (218,⟨1,false,[.z],[],none,false,false,false,none,none⟩),
 (219,⟨2,true,[.nil .i,.i 0],[(0,121,1),(1,3,1)],none,false,false,false,none,none⟩),
 (220,⟨1,false,[.z],[],none,false,false,false,none,none⟩),
 (221,⟨1,false,[.z],[],none,false,false,false,none,none⟩),
 (222,⟨1,false,[.z],[],none,false,false,false,none,none⟩),
 (223,⟨1,false,[.z],[],none,false,false,false,none,none⟩),
 (224,⟨1,false,[.z],[],none,false,false,false,none,none⟩),
 (225,⟨3,true,[.z,.s ByteArray.empty,.i 0],[(0,83,1),(1,9,1),(2,3,1)],none,false,false,false,none,none⟩),
 (226,⟨3,true,[.z,.s ByteArray.empty,.i 0],[(0,83,1),(1,9,1),(2,3,1)],none,false,false,false,none,none⟩),
 (227,⟨1,false,[.z],[],none,false,false,false,none,none⟩),
 (228,⟨1,false,[.z],[],none,false,false,false,none,none⟩),
 (229,⟨1,false,[.z],[],none,false,false,false,none,none⟩),
 (230,⟨1,false,[.z],[],none,false,false,false,none,none⟩),
 (231,⟨1,false,[.k .u64 0],[],none,false,false,false,some .u64,none⟩),
 (232,⟨1,false,[.z],[],none,false,false,false,none,none⟩),
 (233,⟨1,false,[.z],[],none,false,false,false,none,none⟩),
 (234,⟨1,false,[.z],[],none,false,false,false,none,none⟩),
 (235,⟨1,false,[.z],[],none,false,false,false,none,none⟩),
 (236,⟨1,false,[.z],[],none,false,false,false,none,none⟩),
 (237,⟨1,false,[.z],[],none,false,false,false,none,none⟩),
 (238,⟨1,false,[.z],[],none,false,false,false,none,none⟩),
 (239,⟨1,false,[.z],[],none,false,false,false,none,none⟩),
 (240,⟨1,false,[.z],[],none,false,false,false,none,none⟩),
 (241,⟨1,false,[.z],[],none,false,false,false,none,none⟩),
 (242,⟨1,false,[.z],[],none,false,false,false,none,none⟩),
 (243,⟨1,false,[.z],[],none,false,false,false,none,none⟩),
 (244,⟨2,true,[.z,.nil .u],[(0,243,1),(1,194,1)],none,false,false,false,none,none⟩),
 (245,⟨2,true,[.z,.nil .u],[(0,243,1),(1,194,1)],none,false,false,false,none,none⟩),
 (246,⟨1,false,[.z],[],none,false,false,false,none,none⟩),
 (250,⟨1,false,[.z],[],none,false,false,false,none,none⟩),
 (251,⟨1,false,[.z],[],none,false,false,false,none,none⟩),
 (252,⟨1,false,[.z],[],none,false,false,false,none,none⟩),
 (253,⟨1,false,[.i 0],[],none,false,true,false,some .i64,none⟩),
 (255,⟨1,false,[.z],[],none,false,false,false,none,none⟩),
 (256,⟨1,false,[.z],[],none,false,false,false,none,none⟩),
 (257,⟨1,false,[.z],[],none,false,false,false,none,none⟩),
 (259,⟨1,false,[.z],[],none,false,false,false,none,none⟩),
 (260,⟨1,false,[.z],[],none,false,false,false,none,none⟩),
 (261,⟨1,false,[.k .u32 0],[],none,false,false,false,some .u32,none⟩),
 (262,⟨1,false,[.z],[],none,false,false,false,none,none⟩),
 (263,⟨1,false,[.k .u64 0],[],none,false,false,false,some .u64,none⟩),
 (265,⟨1,false,[.z],[],none,false,false,false,none,none⟩),
 (266,⟨1,false,[.z],[],none,false,false,false,none,none⟩),
 (267,⟨1,false,[.z],[],none,false,false,false,none,none⟩),
 (268,⟨1,false,[.k .u64 0],[],none,false,false,false,some .u64,none⟩),
 (269,⟨1,false,[.z],[],none,false,false,false,none,none⟩),
 (270,⟨1,false,[.z],[],none,false,false,false,none,none⟩),
 (271,⟨1,false,[.z],[],none,false,false,false,none,none⟩),
 (272,⟨1,false,[.z],[],none,false,false,false,none,none⟩),
 (273,⟨1,false,[.z],[],none,false,false,false,none,none⟩),
 (274,⟨1,false,[.z],[],none,false,false,false,none,none⟩),
 (276,⟨1,false,[.z],[],none,false,false,false,none,none⟩),
 (277,⟨1,false,[.z],[],none,false,false,false,none,none⟩),
 (278,⟨1,false,[.z],[],none,false,false,false,none,none⟩),
 (280,⟨1,false,[.z],[],none,false,false,false,none,none⟩),
 (281,⟨4,true,[.z,.z,.z,.s ByteArray.empty],[(0,17,1),(1,17,1),(2,17,1),(3,9,1)],none,false,false,false,none,none⟩),
 (282,⟨4,true,[.z,.z,.z,.s ByteArray.empty],[(0,17,1),(1,17,1),(2,17,1),(3,9,1)],none,false,false,false,none,none⟩),
 (286,⟨1,false,[.z],[],none,false,false,false,none,none⟩),
 (287,⟨1,false,[.k .u8 0],[],none,false,false,false,some .u8,none⟩),
 (288,⟨1,false,[.k .u8 0],[],none,false,false,false,some .u8,none⟩),
 (289,⟨1,false,[.z],[],none,false,false,false,none,none⟩),
 (290,⟨1,false,[.k .i32 0],[],none,false,false,false,some .i32,none⟩),
 (291,⟨1,false,[.k .i32 0],[],none,false,false,false,some .i32,none⟩),
 (292,⟨11,true,[.k .u64 0,.k .u64 0,.k .u32 0,.k .u8 0,.k .u8 0,.k .u8 0,.k .u8 0,.z,.z,.k .i32 0,.k .i32 0],[(0,12,1),(1,12,1),(2,261,1),(3,287,1),(4,5,1),(5,5,1),(6,288,1),(7,289,1),(8,267,1),(9,290,1),(10,291,1)],none,false,false,false,none,none⟩),
 (293,⟨11,true,[.k .u64 0,.k .u64 0,.k .u32 0,.k .u8 0,.k .u8 0,.k .u8 0,.k .u8 0,.z,.z,.k .i32 0,.k .i32 0],[(0,12,1),(1,12,1),(2,261,1),(3,287,1),(4,5,1),(5,5,1),(6,288,1),(7,289,1),(8,267,1),(9,290,1),(10,291,1)],none,false,false,false,none,none⟩)]
def tb (t:Nat):Option TI:=tbl.lookup t
noncomputable def tblOK:Bool:=tbl.all λp=>match Abs.tyOf Tryz.prog p.1 with
 |some i=>tiOK i p.2&&mapOK Tryz.prog p.1 p.2
 |none=>false
noncomputable def ocase {α β:Type} (o:Option α) (a:β) (f:α->β):β:=match o with
 |none=>a
 |some x=>f x
theorem tblOK_true :tblOK=true:=by kernel_rfl
theorem mixed :Tryz.prog.follows .mixedOrders=true:=by kernel_rfl
theorem tb_ok :TBOK Tryz.prog tb:=λt ti h=>by
 have hm:(t,ti)∈tbl:=lookup_mem h
 have:=aT.1 tblOK_true _ hm
 simp only at this
 split at this
 ·rename_i i hi;rw[bA]at this;exact⟨i,hi,this.1,this.2⟩
 ·cases this
theorem apl {an:Ann} {pc:Pcs} {c:Code} (l:List (Nat×Nat×Code)) (h:AllP Tryz.prog an pc l) (e:pieces an c=l:=by kernel_rfl):AllP Tryz.prog an pc (pieces an c):=by rw[e];exact h
theorem lpc {L:List Ent} (hG:AllE Tryz.prog L) {an:Ann} (pc:Pcs) {c:Code} (lv:List Nat) (o:Outs) (hP:AllP Tryz.prog an pc (pieces an c)) {f:Nat->(R:Type)->St->Kt R->Option R} (h0:∀(R:Type) (st:St) (K:Kt R),f 0 R st K=none)
  (hf:∀(n:Nat) (R:Type) (st:St) (K:Kt R) (r:R),f (n+1) R st K=some r->den tb (orcOf L) pc an c st (roundK an.refs lv o (λst'=>f n R st' K) K)=some r):∀n,PieceOK Tryz.prog an (.loop c) (f n):=loop_piece mixed tb_ok (orc_ok hG) hP h0 hf
theorem cpc {L:List Ent} (hG:AllE Tryz.prog L) {an:Ann} (pc:Pcs) {c:Code} (o:Outs) (hP:AllP Tryz.prog an pc (pieces an c)) {f:(R:Type)->St->Kt R->Option R}
  (hf:∀(R:Type) (st:St) (K:Kt R) (r:R),f R st K=some r->den tb (orcOf L) pc an c st (outK an.refs o K)=some r):PieceOK Tryz.prog an c f:=cut_piece mixed tb_ok (orc_ok hG) hP hf
theorem fnR {L:List Ent} (hG:AllE Tryz.prog L) {f:FuncId} {fn:Func} (an:Ann) (pc:Pcs) (c:Code) (rs:List ResultVar) (rb:List Nat) {xs xs2:List AT} {v:AT} {H H2 H':List Ob} {fin:St->Option (AT×List Ob)} (hf:Tryz.prog.funcs[f]? =some fn) (hfin:fin=finF tb an rs\/fin=finR tb an rs)
  (hP:AllP Tryz.prog an pc (pieces an c)) (hd:den tb (orcOf L) pc an c ⟨argsD 0 xs2,H2⟩ (atEnd fin)=some (v,H')) (hb:fn.body=some c:=by kernel_rfl) (hname:(fn.name== "runtime.NumGoroutine")=false:=by kernel_rfl) (hnt:Nat.beq fn.ntmps an.nt=true:=by kernel_rfl)
  (hx:Nat.ble xs.length an.nt=true:=by kernel_rfl) (hr:Nat.beq an.refs H.length=true:=by kernel_rfl) (hrs:fn.results=rs.toArray:=by kernel_rfl) (hrb:rebs rb (xs,H)=some (xs2,H2):=by kernel_rfl) (hnr:(H2.all λo=> !o.isRows)=true:=by kernel_rfl):CFn Tryz.prog f xs H v H':=
 fn_of_den mixed tb_ok (orc_ok hG) hf hb hname hnt hx hr hrs hfin hP hrb hnr hd
theorem fnP {L:List Ent} (hG:AllE Tryz.prog L) {f:FuncId} {fn:Func} (an:Ann) (pc:Pcs) (c:Code) (rs:List ResultVar) {xs:List AT} {v:AT} {H H':List Ob} {fin:St->Option (AT×List Ob)} (hf:Tryz.prog.funcs[f]? =some fn) (hfin:fin=finF tb an rs\/fin=finR tb an rs)
  (hP:AllP Tryz.prog an pc (pieces an c)) (hd:den tb (orcOf L) pc an c ⟨argsD 0 xs,H⟩ (atEnd fin)=some (v,H')) (hb:fn.body=some c:=by kernel_rfl) (hname:(fn.name== "runtime.NumGoroutine")=false:=by kernel_rfl) (hnt:Nat.beq fn.ntmps an.nt=true:=by kernel_rfl)
  (hx:Nat.ble xs.length an.nt=true:=by kernel_rfl) (hr:Nat.beq an.refs H.length=true:=by kernel_rfl) (hrs:fn.results=rs.toArray:=by kernel_rfl) (hnr:(H.all λo=> !o.isRows)=true:=by kernel_rfl):CFn Tryz.prog f xs H v H':=fnR hG an pc c rs [] hf hfin hP hd hb hname hnt hx hr hrs rfl hnr
abbrev LM :=List (ByteArray×Int)
abbrev LB :=List ByteArray
abbrev LI :=List Int
abbrev LO :=List Opr
abbrev LS :=List Sb
abbrev LD :=List Dc
abbrev LT :=List Tm
abbrev LQ :=List Eqn
abbrev LK :=List Cnd
abbrev LY :=List Sgy
def nK (R:Type) (_:Nat) (_:St) (_:Kt R):Option R:=none
namespace z1v
abbrev Q :=Md->Sgy->Option (Bool)
noncomputable def ent (g:Q):Ent:=⟨3,0,[0,0],λ_ xs H K=>match xs,H with
 |[.agg [.l .s a,.l (.n 5) a2,.l (.n 8) a3,.l (.n 14) a4,.l (.n 14) a5],.agg [.i a6,.i a7,.i a8,.s a9,.i a10,.l (.n 1) a11,.l (.n 16) a12]],[]=>Option.bind (g (Md.mk (Sg.mk (So.mk a a2) a3) a4 a5) (Sgy.mk a6 a7 (Tm.mk a8 a9 a10 a11) a12)) λr=>K (.one (.b r)) []
 |_,_=>none⟩
end z1v
namespace z1w
abbrev Q :=Sg->ByteArray->Option (Bool)
noncomputable def ent (g:Q):Ent:=⟨4,0,[0,0],λ_ xs H K=>match xs,H with
 |[.agg [.l .s a,.l (.n 5) a2,.l (.n 8) a3],.one (.s a4)],[]=>Option.bind (g (Sg.mk (So.mk a a2) a3) a4) λr=>K (.one (.b r)) []
 |_,_=>none⟩
end z1w
namespace z38
abbrev Q :=Md->Int->Option (Int)
noncomputable def ent (g:Q):Ent:=⟨5,0,[0,0],λ_ xs H K=>match xs,H with
 |[.agg [.l .s a,.l (.n 5) a2,.l (.n 8) a3,.l (.n 14) a4,.l (.n 14) a5],.one (.i a6)],[]=>Option.bind (g (Md.mk (Sg.mk (So.mk a a2) a3) a4 a5) a6) λr=>K (.one (.i r)) []
 |_,_=>none⟩
end z38
namespace z3e
abbrev Q :=Sgy->Int->Option (Int)
noncomputable def ent (g:Q):Ent:=⟨6,0,[0,0],λ_ xs H K=>match xs,H with
 |[.agg [.i a,.i a2,.i a3,.s a4,.i a5,.l (.n 1) a6,.l (.n 16) a7],.one (.i a8)],[]=>Option.bind (g (Sgy.mk a a2 (Tm.mk a3 a4 a5 a6) a7) a8) λr=>K (.one (.i r)) []
 |_,_=>none⟩
end z3e
namespace z4k
abbrev Q :=Md->Sgy->Option (Bool)
noncomputable def ent (g:Q):Ent:=⟨7,0,[0,0],λ_ xs H K=>match xs,H with
 |[.agg [.l .s a,.l (.n 5) a2,.l (.n 8) a3,.l (.n 14) a4,.l (.n 14) a5],.agg [.i a6,.i a7,.i a8,.s a9,.i a10,.l (.n 1) a11,.l (.n 16) a12]],[]=>Option.bind (g (Md.mk (Sg.mk (So.mk a a2) a3) a4 a5) (Sgy.mk a6 a7 (Tm.mk a8 a9 a10 a11) a12)) λr=>K (.one (.b r)) []
 |_,_=>none⟩
end z4k
namespace z3r
abbrev Q :=Md->Option (Md)
noncomputable def ent (g:Q):Ent:=⟨8,1,[0],λ_ xs H K=>match xs,H with
 |[.agg [.l .s a,.l (.n 5) a2,.l (.n 8) a3,.l (.n 14) a4,.l (.n 14) a5]],[]=>Option.bind (g (Md.mk (Sg.mk (So.mk a a2) a3) a4 a5)) λr=>K (.agg [.l .s (So.names (Sg.sorts (Md.sig r))),.l (.n 5) (So.subs (Sg.sorts (Md.sig r))),.l (.n 8) (Sg.ops (Md.sig r)),.l (.n 14) (Md.eqs r),.l (.n 14) (Md.rules r)]) []
 |_,_=>none⟩
end z3r
namespace z3w
abbrev Q :=Sgy->Option (Sgy)
noncomputable def ent (g:Q):Ent:=⟨9,1,[0],λ_ xs H K=>match xs,H with
 |[.agg [.i a,.i a2,.i a3,.s a4,.i a5,.l (.n 1) a6,.l (.n 16) a7]],[]=>Option.bind (g (Sgy.mk a a2 (Tm.mk a3 a4 a5 a6) a7)) λr=>K (.agg [.i (Sgy.kind r),.i (Sgy.index r),.i (Tm.op (Sgy.test r)),.s (Tm.name (Sgy.test r)),.i (Tm.sort (Sgy.test r)),.l (.n 1) (Tm.args (Sgy.test r)),.l (.n 16) (Sgy.kids r)]) []
 |_,_=>none⟩
end z3w
namespace z0k
abbrev Q :=Md->Sgy->Option (Bool)
noncomputable def ent (g:Q):Ent:=⟨10,0,[0,0],λ_ xs H K=>match xs,H with
 |[.agg [.l .s a,.l (.n 5) a2,.l (.n 8) a3,.l (.n 14) a4,.l (.n 14) a5],.agg [.i a6,.i a7,.i a8,.s a9,.i a10,.l (.n 1) a11,.l (.n 16) a12]],[]=>Option.bind (g (Md.mk (Sg.mk (So.mk a a2) a3) a4 a5) (Sgy.mk a6 a7 (Tm.mk a8 a9 a10 a11) a12)) λr=>K (.one (.b r)) []
 |_,_=>none⟩
end z0k
namespace z27
abbrev Q :=Md->Md->Option (Bool)
noncomputable def ent (g:Q):Ent:=⟨11,0,[0,0],λ_ xs H K=>match xs,H with
 |[.agg [.l .s a,.l (.n 5) a2,.l (.n 8) a3,.l (.n 14) a4,.l (.n 14) a5],.agg [.l .s a6,.l (.n 5) a7,.l (.n 8) a8,.l (.n 14) a9,.l (.n 14) a10]],[]=>Option.bind (g (Md.mk (Sg.mk (So.mk a a2) a3) a4 a5) (Md.mk (Sg.mk (So.mk a6 a7) a8) a9 a10)) λr=>K (.one (.b r)) []
 |_,_=>none⟩
end z27
namespace z2c
abbrev Q :=Sgy->Sgy->Option (Bool)
noncomputable def ent (g:Q):Ent:=⟨12,0,[0,0],λ_ xs H K=>match xs,H with
 |[.agg [.i a,.i a2,.i a3,.s a4,.i a5,.l (.n 1) a6,.l (.n 16) a7],.agg [.i a8,.i a9,.i a10,.s a11,.i a12,.l (.n 1) a13,.l (.n 16) a14]],[]=>Option.bind (g (Sgy.mk a a2 (Tm.mk a3 a4 a5 a6) a7) (Sgy.mk a8 a9 (Tm.mk a10 a11 a12 a13) a14)) λr=>K (.one (.b r)) []
 |_,_=>none⟩
end z2c
namespace z3c
abbrev Q :=Sg->Int->Option (Int)
noncomputable def ent (g:Q):Ent:=⟨13,0,[0,0],λ_ xs H K=>match xs,H with
 |[.agg [.l .s a,.l (.n 5) a2,.l (.n 8) a3],.one (.i a4)],[]=>Option.bind (g (Sg.mk (So.mk a a2) a3) a4) λr=>K (.one (.i r)) []
 |_,_=>none⟩
end z3c
namespace z4p
abbrev Q :=Sg->ByteArray->Option (Eqn×Bool)
end z4p
namespace z3u
abbrev Q :=Sg->Option (Sg)
noncomputable def ent (g:Q):Ent:=⟨15,1,[0],λ_ xs H K=>match xs,H with
 |[.agg [.l .s a,.l (.n 5) a2,.l (.n 8) a3]],[]=>Option.bind (g (Sg.mk (So.mk a a2) a3)) λr=>K (.agg [.l .s (So.names (Sg.sorts r)),.l (.n 5) (So.subs (Sg.sorts r)),.l (.n 8) (Sg.ops r)]) []
 |_,_=>none⟩
end z3u
namespace z0n
abbrev Q :=Sg->ByteArray->Option (Eqn×Bool)
end z0n
namespace z23
abbrev Q :=Eqn->Eqn->Option (Bool)
noncomputable def ent (g:Q):Ent:=⟨17,0,[0,0],λ_ xs H K=>match xs,H with
 |[.agg [.i a,.s a2,.i a3,.l (.n 1) a4,.i a5,.s a6,.i a7,.l (.n 1) a8,.l (.n 13) a9],.agg [.i a10,.s a11,.i a12,.l (.n 1) a13,.i a14,.s a15,.i a16,.l (.n 1) a17,.l (.n 13) a18]],[]=>Option.bind (g (Eqn.mk (Tm.mk a a2 a3 a4) (Tm.mk a5 a6 a7 a8) a9) (Eqn.mk (Tm.mk a10 a11 a12 a13) (Tm.mk a14 a15 a16 a17) a18)) λr=>K (.one (.b r)) []
 |_,_=>none⟩
end z23
namespace z2a
abbrev Q :=Sg->Sg->Option (Bool)
noncomputable def ent (g:Q):Ent:=⟨18,0,[0,0],λ_ xs H K=>match xs,H with
 |[.agg [.l .s a,.l (.n 5) a2,.l (.n 8) a3],.agg [.l .s a4,.l (.n 5) a5,.l (.n 8) a6]],[]=>Option.bind (g (Sg.mk (So.mk a a2) a3) (Sg.mk (So.mk a4 a5) a6)) λr=>K (.one (.b r)) []
 |_,_=>none⟩
end z2a
namespace z2s
abbrev Q :=Sg->Int->Option (Int)
end z2s
namespace z2p
abbrev Q :=Eqn->Int->Option (Int)
noncomputable def ent (g:Q):Ent:=⟨20,0,[0,0],λ_ xs H K=>match xs,H with
 |[.agg [.i a,.s a2,.i a3,.l (.n 1) a4,.i a5,.s a6,.i a7,.l (.n 1) a8,.l (.n 13) a9],.one (.i a10)],[]=>Option.bind (g (Eqn.mk (Tm.mk a a2 a3 a4) (Tm.mk a5 a6 a7 a8) a9) a10) λr=>K (.one (.i r)) []
 |_,_=>none⟩
end z2p
namespace z2k
abbrev Q :=Eqn->Int->Option (Int)
end z2k
namespace z35
abbrev Q :=LQ->Int->Option (Int)
noncomputable def ent (g:Q):Ent:=⟨22,0,[0,0],λ_ xs H K=>match xs,H with
 |[.one (.l (.n 14) a),.one (.i a2)],[]=>Option.bind (g a a2) λr=>K (.one (.i r)) []
 |_,_=>none⟩
end z35
namespace z3i
abbrev Q :=Tm->Int->Option (Int)
noncomputable def ent (g:Q):Ent:=⟨23,0,[0,0],λ_ xs H K=>match xs,H with
 |[.agg [.i a,.s a2,.i a3,.l (.n 1) a4],.one (.i a5)],[]=>Option.bind (g (Tm.mk a a2 a3 a4) a5) λr=>K (.one (.i r)) []
 |_,_=>none⟩
end z3i
namespace z3f
abbrev Q :=LY->Int->Option (Int)
noncomputable def ent (g:Q):Ent:=⟨24,0,[0,0],λ_ xs H K=>match xs,H with
 |[.one (.l (.n 16) a),.one (.i a2)],[]=>Option.bind (g a a2) λr=>K (.one (.i r)) []
 |_,_=>none⟩
end z3f
namespace z4c
abbrev Q :=Md->Option (Bool)
noncomputable def ent (g:Q):Ent:=⟨25,0,[0],λ_ xs H K=>match xs,H with
 |[.agg [.l .s a,.l (.n 5) a2,.l (.n 8) a3,.l (.n 14) a4,.l (.n 14) a5]],[]=>Option.bind (g (Md.mk (Sg.mk (So.mk a a2) a3) a4 a5)) λr=>K (.one (.b r)) []
 |_,_=>none⟩
end z4c
namespace z58
abbrev Q :=Sgy->Int->Option (Int)
noncomputable def ent (g:Q):Ent:=⟨26,0,[0,0],λ_ xs H K=>match xs,H with
 |[.agg [.i a,.i a2,.i a3,.s a4,.i a5,.l (.n 1) a6,.l (.n 16) a7],.one (.i a8)],[]=>Option.bind (g (Sgy.mk a a2 (Tm.mk a3 a4 a5 a6) a7) a8) λr=>K (.one (.i r)) []
 |_,_=>none⟩
end z58
namespace z59
abbrev Q :=Md->Sgy->Option (Bool×Md)
noncomputable def ent (g:Q):Ent:=⟨27,2,[1,0],λ_ xs H K=>match xs,H with
 |[.one (.p 0 0),.agg [.i a,.i a2,.i a3,.s a4,.i a5,.l (.n 1) a6,.l (.n 16) a7]],[.box [.l .s h,.l (.n 5) h2,.l (.n 8) h3,.l (.n 14) h4,.l (.n 14) h5]]=>Option.bind (g (Md.mk (Sg.mk (So.mk h h2) h3) h4 h5) (Sgy.mk a a2 (Tm.mk a3 a4 a5 a6) a7)) λr=>K (.one (.b r.1)) [.box [.l .s (So.names (Sg.sorts (Md.sig r.2))),.l (.n 5) (So.subs (Sg.sorts (Md.sig r.2))),.l (.n 8) (Sg.ops (Md.sig r.2)),.l (.n 14) (Md.eqs r.2),.l (.n 14) (Md.rules r.2)]]
 |_,_=>none⟩
end z59
namespace z3p
abbrev Q :=LQ->Option LQ
noncomputable def ent (g:Q):Ent:=⟨28,1,[0],λ_ xs H K=>match xs,H with
 |[.one (.l (.n 14) a)],[]=>Option.bind (g a) λr=>K (.one (.l (.n 14) r)) []
 |_,_=>none⟩
end z3p
namespace z41
abbrev Q :=Tm->Option (Tm)
noncomputable def ent (g:Q):Ent:=⟨29,1,[0],λ_ xs H K=>match xs,H with
 |[.agg [.i a,.s a2,.i a3,.l (.n 1) a4]],[]=>Option.bind (g (Tm.mk a a2 a3 a4)) λr=>K (.agg [.i (Tm.op r),.s (Tm.name r),.i (Tm.sort r),.l (.n 1) (Tm.args r)]) []
 |_,_=>none⟩
end z41
namespace z3x
abbrev Q :=LY->Option LY
noncomputable def ent (g:Q):Ent:=⟨30,1,[0],λ_ xs H K=>match xs,H with
 |[.one (.l (.n 16) a)],[]=>Option.bind (g a) λr=>K (.one (.l (.n 16) r)) []
 |_,_=>none⟩
end z3x
namespace z1j
abbrev Q :=Sg->Option (Option (LI×LI×LI×LB×LS×LO×LM))
noncomputable def ent (g:Q):Ent:=⟨31,2,[0],λ_ xs H K=>match xs,H with
 |[.agg [.l .s a,.l (.n 5) a2,.l (.n 8) a3]],[]=>Option.bind (g (Sg.mk (So.mk a a2) a3)) λr=>ocase r (K (.tup [.one (.z),.one (.b false)]) []) (λq=>(K (.tup [.one (.p 0 0),.one (.b true)]) [.box [.l .i q.1,.l .i q.2.1,.l .i q.2.2.1,.l .s q.2.2.2.1,.l (.n 5) q.2.2.2.2.1,.l (.n 8) q.2.2.2.2.2.1,.m 1],.map .i q.2.2.2.2.2.2]))
 |_,_=>none⟩
end z1j
namespace z0y
abbrev Q :=LI->LI->LI->LB->LS->LO->LM->Md->Option (Bool×LM)
noncomputable def ent (g:Q):Ent:=⟨32,2,[1,0],λ_ xs H K=>match xs,H with
 |[.one (.p 0 0),.agg [.l .s a,.l (.n 5) a2,.l (.n 8) a3,.l (.n 14) a4,.l (.n 14) a5]],[.box [.l .i h,.l .i h2,.l .i h3,.l .s h4,.l (.n 5) h5,.l (.n 8) h6,.m 1],.map .i h7]=>Option.bind (g h h2 h3 h4 h5 h6 h7 (Md.mk (Sg.mk (So.mk a a2) a3) a4 a5)) λr=>K (.one (.b r.1)) [.box [.l .i h,.l .i h2,.l .i h3,.l .s h4,.l (.n 5) h5,.l (.n 8) h6,.m 1],.map .i r.2]
 |_,_=>none⟩
end z0y
namespace z1p
abbrev Q :=Sgy->Option (Int)
noncomputable def ent (g:Q):Ent:=⟨33,0,[0],λ_ xs H K=>match xs,H with
 |[.agg [.i a,.i a2,.i a3,.s a4,.i a5,.l (.n 1) a6,.l (.n 16) a7]],[]=>Option.bind (g (Sgy.mk a a2 (Tm.mk a3 a4 a5 a6) a7)) λr=>K (.one (.i r)) []
 |_,_=>none⟩
end z1p
namespace z10
abbrev Q :=LI->LI->LI->LB->LS->LO->LM->Md->Sgy->Option (Bool×LM)
noncomputable def ent (g:Q):Ent:=⟨34,2,[1,0,0],λ_ xs H K=>match xs,H with
 |[.one (.p 0 0),.agg [.l .s a,.l (.n 5) a2,.l (.n 8) a3,.l (.n 14) a4,.l (.n 14) a5],.agg [.i a6,.i a7,.i a8,.s a9,.i a10,.l (.n 1) a11,.l (.n 16) a12]],[.box [.l .i h,.l .i h2,.l .i h3,.l .s h4,.l (.n 5) h5,.l (.n 8) h6,.m 1],.map .i h7]=>Option.bind (g h h2 h3 h4 h5 h6 h7 (Md.mk (Sg.mk (So.mk a a2) a3) a4 a5) (Sgy.mk a6 a7 (Tm.mk a8 a9 a10 a11) a12)) λr=>K (.one (.b r.1)) [.box [.l .i h,.l .i h2,.l .i h3,.l .s h4,.l (.n 5) h5,.l (.n 8) h6,.m 1],.map .i r.2]
 |_,_=>none⟩
end z10
namespace z24
abbrev Q :=LQ->LQ->Option (Bool)
noncomputable def ent (g:Q):Ent:=⟨35,0,[0,0],λ_ xs H K=>match xs,H with
 |[.one (.l (.n 14) a),.one (.l (.n 14) a2)],[]=>Option.bind (g a a2) λr=>K (.one (.b r)) []
 |_,_=>none⟩
end z24
namespace z2h
abbrev Q :=Tm->Tm->Option (Bool)
noncomputable def ent (g:Q):Ent:=⟨36,0,[0,0],λ_ xs H K=>match xs,H with
 |[.agg [.i a,.s a2,.i a3,.l (.n 1) a4],.agg [.i a5,.s a6,.i a7,.l (.n 1) a8]],[]=>Option.bind (g (Tm.mk a a2 a3 a4) (Tm.mk a5 a6 a7 a8)) λr=>K (.one (.b r)) []
 |_,_=>none⟩
end z2h
namespace z2d
abbrev Q :=LY->LY->Option (Bool)
noncomputable def ent (g:Q):Ent:=⟨37,0,[0,0],λ_ xs H K=>match xs,H with
 |[.one (.l (.n 16) a),.one (.l (.n 16) a2)],[]=>Option.bind (g a a2) λr=>K (.one (.b r)) []
 |_,_=>none⟩
end z2d
namespace z3d
abbrev Q :=So->Int->Option (Int)
noncomputable def ent (g:Q):Ent:=⟨38,0,[0,0],λ_ xs H K=>match xs,H with
 |[.agg [.l .s a,.l (.n 5) a2],.one (.i a3)],[]=>Option.bind (g (So.mk a a2) a3) λr=>K (.one (.i r)) []
 |_,_=>none⟩
end z3d
namespace z3b
abbrev Q :=LO->Int->Option (Int)
noncomputable def ent (g:Q):Ent:=⟨39,0,[0,0],λ_ xs H K=>match xs,H with
 |[.one (.l (.n 8) a),.one (.i a2)],[]=>Option.bind (g a a2) λr=>K (.one (.i r)) []
 |_,_=>none⟩
end z3b
namespace z4x
abbrev Q :=ByteArray->ByteArray->Option (ByteArray×ByteArray×Bool)
noncomputable def ent (g:Q):Ent:=⟨40,0,[0,0],λ_ xs H K=>match xs,H with
 |[.one (.s a),.one (.s a2)],[]=>Option.bind (g a a2) λr=>K (.tup [.one (.s r.1),.one (.s r.2.1),.one (.b r.2.2)]) []
 |_,_=>none⟩
end z4x
namespace z4y
abbrev Q :=Sg->ByteArray->Option (Tm×Tm×Bool)
end z4y
namespace z49
abbrev Q :=Sg->Eqn->Option (ByteArray)
noncomputable def ent (g:Q):Ent:=⟨42,0,[0,0],λ_ xs H K=>match xs,H with
 |[.agg [.l .s a,.l (.n 5) a2,.l (.n 8) a3],.agg [.i a4,.s a5,.i a6,.l (.n 1) a7,.i a8,.s a9,.i a10,.l (.n 1) a11,.l (.n 13) a12]],[]=>Option.bind (g (Sg.mk (So.mk a a2) a3) (Eqn.mk (Tm.mk a4 a5 a6 a7) (Tm.mk a8 a9 a10 a11) a12)) λr=>K (.one (.s r)) []
 |_,_=>none⟩
end z49
namespace z3v
abbrev Q :=So->Option (So)
noncomputable def ent (g:Q):Ent:=⟨43,1,[0],λ_ xs H K=>match xs,H with
 |[.agg [.l .s a,.l (.n 5) a2]],[]=>Option.bind (g (So.mk a a2)) λr=>K (.agg [.l .s (So.names r),.l (.n 5) (So.subs r)]) []
 |_,_=>none⟩
end z3v
namespace z3t
abbrev Q :=LO->Option LO
noncomputable def ent (g:Q):Ent:=⟨44,1,[0],λ_ xs H K=>match xs,H with
 |[.one (.l (.n 8) a)],[]=>Option.bind (g a) λr=>K (.one (.l (.n 8) r)) []
 |_,_=>none⟩
end z3t
namespace z15
abbrev Q :=LI->LI->LI->LB->LS->LO->LM->ByteArray->Option (Eqn×Bool×LM)
end z15
namespace z1y
abbrev Q :=LK->LK->Option (Bool)
noncomputable def ent (g:Q):Ent:=⟨46,0,[0,0],λ_ xs H K=>match xs,H with
 |[.one (.l (.n 13) a),.one (.l (.n 13) a2)],[]=>Option.bind (g a a2) λr=>K (.one (.b r)) []
 |_,_=>none⟩
end z1y
namespace z2b
abbrev Q :=So->So->Option (Bool)
noncomputable def ent (g:Q):Ent:=⟨47,0,[0,0],λ_ xs H K=>match xs,H with
 |[.agg [.l .s a,.l (.n 5) a2],.agg [.l .s a3,.l (.n 5) a4]],[]=>Option.bind (g (So.mk a a2) (So.mk a3 a4)) λr=>K (.one (.b r)) []
 |_,_=>none⟩
end z2b
namespace z29
abbrev Q :=LO->LO->Option (Bool)
noncomputable def ent (g:Q):Ent:=⟨48,0,[0,0],λ_ xs H K=>match xs,H with
 |[.one (.l (.n 8) a),.one (.l (.n 8) a2)],[]=>Option.bind (g a a2) λr=>K (.one (.b r)) []
 |_,_=>none⟩
end z29
namespace z2t
abbrev Q :=So->Int->Option (Int)
end z2t
namespace z2r
abbrev Q :=LO->Int->Option (Int)
end z2r
namespace z2w
abbrev Q :=Tm->Int->Option (Int)
end z2w
namespace z2n
abbrev Q :=LK->Int->Option (Int)
noncomputable def ent (g:Q):Ent:=⟨52,0,[0,0],λ_ xs H K=>match xs,H with
 |[.one (.l (.n 13) a),.one (.i a2)],[]=>Option.bind (g a a2) λr=>K (.one (.i r)) []
 |_,_=>none⟩
end z2n
namespace z2l
abbrev Q :=Tm->Int->Option (Int)
end z2l
namespace z2j
abbrev Q :=LK->Int->Option (Int)
end z2j
namespace z34
abbrev Q :=Eqn->Int->Option (Int)
noncomputable def ent (g:Q):Ent:=⟨55,0,[0,0],λ_ xs H K=>match xs,H with
 |[.agg [.i a,.s a2,.i a3,.l (.n 1) a4,.i a5,.s a6,.i a7,.l (.n 1) a8,.l (.n 13) a9],.one (.i a10)],[]=>Option.bind (g (Eqn.mk (Tm.mk a a2 a3 a4) (Tm.mk a5 a6 a7 a8) a9) a10) λr=>K (.one (.i r)) []
 |_,_=>none⟩
end z34
namespace z3j
abbrev Q :=LT->Int->Option (Int)
noncomputable def ent (g:Q):Ent:=⟨56,0,[0,0],λ_ xs H K=>match xs,H with
 |[.one (.l (.n 1) a),.one (.i a2)],[]=>Option.bind (g a a2) λr=>K (.one (.i r)) []
 |_,_=>none⟩
end z3j
namespace z4g
abbrev Q :=Sg->Option (Bool)
noncomputable def ent (g:Q):Ent:=⟨57,0,[0],λ_ xs H K=>match xs,H with
 |[.agg [.l .s a,.l (.n 5) a2,.l (.n 8) a3]],[]=>Option.bind (g (Sg.mk (So.mk a a2) a3)) λr=>K (.one (.b r)) []
 |_,_=>none⟩
end z4g
namespace z4a
abbrev Q :=Sg->Eqn->Option (Bool)
noncomputable def ent (g:Q):Ent:=⟨58,0,[0,0],λ_ xs H K=>match xs,H with
 |[.agg [.l .s a,.l (.n 5) a2,.l (.n 8) a3],.agg [.i a4,.s a5,.i a6,.l (.n 1) a7,.i a8,.s a9,.i a10,.l (.n 1) a11,.l (.n 13) a12]],[]=>Option.bind (g (Sg.mk (So.mk a a2) a3) (Eqn.mk (Tm.mk a4 a5 a6 a7) (Tm.mk a8 a9 a10 a11) a12)) λr=>K (.one (.b r)) []
 |_,_=>none⟩
end z4a
namespace z51
abbrev Q :=Int->Int->Int->Option (Bool)
noncomputable def ent (g:Q):Ent:=⟨59,0,[0,0,0],λ_ xs H K=>match xs,H with
 |[.one (.i a),.one (.i a2),.one (.i a3)],[]=>Option.bind (g a a2 a3) λr=>K (.one (.b r)) []
 |_,_=>none⟩
end z51
namespace z4m
abbrev Q :=Sg->Tm->Option (Bool)
noncomputable def ent (g:Q):Ent:=⟨60,0,[0,0],λ_ xs H K=>match xs,H with
 |[.agg [.l .s a,.l (.n 5) a2,.l (.n 8) a3],.agg [.i a4,.s a5,.i a6,.l (.n 1) a7]],[]=>Option.bind (g (Sg.mk (So.mk a a2) a3) (Tm.mk a4 a5 a6 a7)) λr=>K (.one (.b r)) []
 |_,_=>none⟩
end z4m
namespace z4t
abbrev Q :=Tm->Option LT
noncomputable def ent (g:Q):Ent:=⟨61,1,[0],λ_ xs H K=>match xs,H with
 |[.agg [.i a,.s a2,.i a3,.l (.n 1) a4]],[]=>Option.bind (g (Tm.mk a a2 a3 a4)) λr=>K (.one (.l (.n 1) r)) []
 |_,_=>none⟩
end z4t
namespace z5l
abbrev Q :=Tm->Tm->Option (Bool)
noncomputable def ent (g:Q):Ent:=⟨62,0,[0,0],λ_ xs H K=>match xs,H with
 |[.agg [.i a,.s a2,.i a3,.l (.n 1) a4],.agg [.i a5,.s a6,.i a7,.l (.n 1) a8]],[]=>Option.bind (g (Tm.mk a a2 a3 a4) (Tm.mk a5 a6 a7 a8)) λr=>K (.one (.b r)) []
 |_,_=>none⟩
end z5l
namespace z3o
abbrev Q :=Eqn->Option (Eqn)
noncomputable def ent (g:Q):Ent:=⟨63,1,[0],λ_ xs H K=>match xs,H with
 |[.agg [.i a,.s a2,.i a3,.l (.n 1) a4,.i a5,.s a6,.i a7,.l (.n 1) a8,.l (.n 13) a9]],[]=>Option.bind (g (Eqn.mk (Tm.mk a a2 a3 a4) (Tm.mk a5 a6 a7 a8) a9)) λr=>K (.agg [.i (Tm.op (Eqn.left r)),.s (Tm.name (Eqn.left r)),.i (Tm.sort (Eqn.left r)),.l (.n 1) (Tm.args (Eqn.left r)),.i (Tm.op (Eqn.right r)),.s (Tm.name (Eqn.right r)),.i (Tm.sort (Eqn.right r)),.l (.n 1) (Tm.args (Eqn.right r)),.l (.n 13) (Eqn.conds r)]) []
 |_,_=>none⟩
end z3o
namespace z42
abbrev Q :=LT->Option LT
noncomputable def ent (g:Q):Ent:=⟨64,1,[0],λ_ xs H K=>match xs,H with
 |[.one (.l (.n 1) a)],[]=>Option.bind (g a) λr=>K (.one (.l (.n 1) r)) []
 |_,_=>none⟩
end z42
namespace z0g
abbrev Q :=Sg->Option (Bool)
noncomputable def ent (g:Q):Ent:=⟨65,0,[0],λ_ xs H K=>match xs,H with
 |[.agg [.l .s a,.l (.n 5) a2,.l (.n 8) a3]],[]=>Option.bind (g (Sg.mk (So.mk a a2) a3)) λr=>K (.one (.b r)) []
 |_,_=>none⟩
end z0g
namespace z1k
abbrev Q :=So->Option (Od×Bool)
noncomputable def ent (g:Q):Ent:=⟨66,1,[0],λ_ xs H K=>match xs,H with
 |[.agg [.l .s a,.l (.n 5) a2]],[]=>Option.bind (g (So.mk a a2)) λr=>K (.tup [.agg [.l .i (Od.above r.1),.l .i (Od.below r.1),.l .i (Od.kind r.1)],.one (.b r.2)]) []
 |_,_=>none⟩
end z1k
namespace z67
abbrev Q :=List LQ->Option LQ
noncomputable def ent (g:Q):Ent:=⟨67,1,[0],λ_ xs H K=>match xs,H with
 |[.one (.l (.sl (.n 14)) a)],[]=>Option.bind (g a) λr=>K (.one (.l (.n 14) r)) []
 |_,_=>none⟩
end z67
namespace z0z
abbrev Q :=LI->LI->LI->LB->LS->LO->LM->Eqn->Option (Bool×LM)
noncomputable def ent (g:Q):Ent:=⟨68,2,[1,0],λ_ xs H K=>match xs,H with
 |[.one (.p 0 0),.agg [.i a,.s a2,.i a3,.l (.n 1) a4,.i a5,.s a6,.i a7,.l (.n 1) a8,.l (.n 13) a9]],[.box [.l .i h,.l .i h2,.l .i h3,.l .s h4,.l (.n 5) h5,.l (.n 8) h6,.m 1],.map .i h7]=>Option.bind (g h h2 h3 h4 h5 h6 h7 (Eqn.mk (Tm.mk a a2 a3 a4) (Tm.mk a5 a6 a7 a8) a9)) λr=>K (.one (.b r.1)) [.box [.l .i h,.l .i h2,.l .i h3,.l .s h4,.l (.n 5) h5,.l (.n 8) h6,.m 1],.map .i r.2]
 |_,_=>none⟩
end z0z
namespace z11
abbrev Q :=LI->LI->LI->LB->LS->LO->LM->Tm->Option (Bool×LM)
noncomputable def ent (g:Q):Ent:=⟨69,2,[1,0],λ_ xs H K=>match xs,H with
 |[.one (.p 0 0),.agg [.i a,.s a2,.i a3,.l (.n 1) a4]],[.box [.l .i h,.l .i h2,.l .i h3,.l .s h4,.l (.n 5) h5,.l (.n 8) h6,.m 1],.map .i h7]=>Option.bind (g h h2 h3 h4 h5 h6 h7 (Tm.mk a a2 a3 a4)) λr=>K (.one (.b r.1)) [.box [.l .i h,.l .i h2,.l .i h3,.l .s h4,.l (.n 5) h5,.l (.n 8) h6,.m 1],.map .i r.2]
 |_,_=>none⟩
end z11
namespace z0r
abbrev Q :=Tm->Option LT
noncomputable def ent (g:Q):Ent:=⟨70,1,[0],λ_ xs H K=>match xs,H with
 |[.agg [.i a,.s a2,.i a3,.l (.n 1) a4]],[]=>Option.bind (g (Tm.mk a a2 a3 a4)) λr=>K (.one (.l (.n 1) r)) []
 |_,_=>none⟩
end z0r
namespace z1m
abbrev Q :=Tm->Tm->Option (Bool)
noncomputable def ent (g:Q):Ent:=⟨71,0,[0,0],λ_ xs H K=>match xs,H with
 |[.agg [.i a,.s a2,.i a3,.l (.n 1) a4],.agg [.i a5,.s a6,.i a7,.l (.n 1) a8]],[]=>Option.bind (g (Tm.mk a a2 a3 a4) (Tm.mk a5 a6 a7 a8)) λr=>K (.one (.b r)) []
 |_,_=>none⟩
end z1m
namespace z2i
abbrev Q :=LT->LT->Option (Bool)
noncomputable def ent (g:Q):Ent:=⟨72,0,[0,0],λ_ xs H K=>match xs,H with
 |[.one (.l (.n 1) a),.one (.l (.n 1) a2)],[]=>Option.bind (g a a2) λr=>K (.one (.b r)) []
 |_,_=>none⟩
end z2i
namespace z3g
abbrev Q :=LB->Int->Option (Int)
noncomputable def ent (g:Q):Ent:=⟨73,0,[0,0],λ_ xs H K=>match xs,H with
 |[.one (.l .s a),.one (.i a2)],[]=>Option.bind (g a a2) λr=>K (.one (.i r)) []
 |_,_=>none⟩
end z3g
namespace z3h
abbrev Q :=LS->Int->Option (Int)
noncomputable def ent (g:Q):Ent:=⟨74,0,[0,0],λ_ xs H K=>match xs,H with
 |[.one (.l (.n 5) a),.one (.i a2)],[]=>Option.bind (g a a2) λr=>K (.one (.i r)) []
 |_,_=>none⟩
end z3h
namespace z3a
abbrev Q :=Opr->Int->Option (Int)
noncomputable def ent (g:Q):Ent:=⟨75,0,[0,0],λ_ xs H K=>match xs,H with
 |[.agg [.s a,.l (.n 7) a2,.b a3,.b a4,.i a5],.one (.i a6)],[]=>Option.bind (g (Opr.mk a a2 a3 a4 a5) a6) λr=>K (.one (.i r)) []
 |_,_=>none⟩
end z3a
namespace z4q
abbrev Q :=Sg->ByteArray->Option (Tm×Bool)
end z4q
namespace z5z
abbrev Q :=Sg->Tm->Option (ByteArray)
end z5z
namespace z3y
abbrev Q :=LB->Option LB
noncomputable def ent (g:Q):Ent:=⟨78,1,[0],λ_ xs H K=>match xs,H with
 |[.one (.l .s a)],[]=>Option.bind (g a) λr=>K (.one (.l .s r)) []
 |_,_=>none⟩
end z3y
namespace z40
abbrev Q :=LS->Option LS
noncomputable def ent (g:Q):Ent:=⟨79,1,[0],λ_ xs H K=>match xs,H with
 |[.one (.l (.n 5) a)],[]=>Option.bind (g a) λr=>K (.one (.l (.n 5) r)) []
 |_,_=>none⟩
end z40
namespace z3s
abbrev Q :=Opr->Option (Opr)
noncomputable def ent (g:Q):Ent:=⟨80,1,[0],λ_ xs H K=>match xs,H with
 |[.agg [.s a,.l (.n 7) a2,.b a3,.b a4,.i a5]],[]=>Option.bind (g (Opr.mk a a2 a3 a4 a5)) λr=>K (.agg [.s (Opr.name r),.l (.n 7) (Opr.decls r),.b (Opr.assoc r),.b (Opr.comm r),.i (Opr.unit r)]) []
 |_,_=>none⟩
end z3s
namespace z6p
abbrev Q :=ByteArray->ByteArray->Option (ByteArray×ByteArray×Bool)
end z6p
namespace z16
abbrev Q :=LI->LI->LI->LB->LS->LO->LM->ByteArray->Option (Tm×Tm×Bool×LM)
end z16
namespace z0x
abbrev Q :=LI->LI->LI->LB->LS->LO->LM->Eqn->Option (ByteArray×LM)
end z0x
namespace z1x
abbrev Q :=Cnd->Cnd->Option (Bool)
noncomputable def ent (g:Q):Ent:=⟨84,0,[0,0],λ_ xs H K=>match xs,H with
 |[.agg [.i a,.s a2,.i a3,.l (.n 1) a4,.i a5,.s a6,.i a7,.l (.n 1) a8],.agg [.i a9,.s a10,.i a11,.l (.n 1) a12,.i a13,.s a14,.i a15,.l (.n 1) a16]],[]=>Option.bind (g (Cnd.mk (Tm.mk a a2 a3 a4) (Tm.mk a5 a6 a7 a8)) (Cnd.mk (Tm.mk a9 a10 a11 a12) (Tm.mk a13 a14 a15 a16))) λr=>K (.one (.b r)) []
 |_,_=>none⟩
end z1x
namespace z2e
abbrev Q :=LB->LB->Option (Bool)
noncomputable def ent (g:Q):Ent:=⟨85,0,[0,0],λ_ xs H K=>match xs,H with
 |[.one (.l .s a),.one (.l .s a2)],[]=>Option.bind (g a a2) λr=>K (.one (.b r)) []
 |_,_=>none⟩
end z2e
namespace z2g
abbrev Q :=LS->LS->Option (Bool)
noncomputable def ent (g:Q):Ent:=⟨86,0,[0,0],λ_ xs H K=>match xs,H with
 |[.one (.l (.n 5) a),.one (.l (.n 5) a2)],[]=>Option.bind (g a a2) λr=>K (.one (.b r)) []
 |_,_=>none⟩
end z2g
namespace z28
abbrev Q :=Opr->Opr->Option (Bool)
noncomputable def ent (g:Q):Ent:=⟨87,0,[0,0],λ_ xs H K=>match xs,H with
 |[.agg [.s a,.l (.n 7) a2,.b a3,.b a4,.i a5],.agg [.s a6,.l (.n 7) a7,.b a8,.b a9,.i a10]],[]=>Option.bind (g (Opr.mk a a2 a3 a4 a5) (Opr.mk a6 a7 a8 a9 a10)) λr=>K (.one (.b r)) []
 |_,_=>none⟩
end z28
namespace z2u
abbrev Q :=LB->Int->Option (Int)
end z2u
namespace z2v
abbrev Q :=LS->Int->Option (Int)
end z2v
namespace z2y
abbrev Q :=Int->Option (ByteArray)
noncomputable def ent (g:Q):Ent:=⟨90,0,[0],λ_ xs H K=>match xs,H with
 |[.one (.i a)],[]=>Option.bind (g a) λr=>K (.one (.s r)) []
 |_,_=>none⟩
end z2y
namespace z2o
abbrev Q :=LD->Int->Option (Int)
noncomputable def ent (g:Q):Ent:=⟨91,0,[0,0],λ_ xs H K=>match xs,H with
 |[.one (.l (.n 7) a),.one (.i a2)],[]=>Option.bind (g a a2) λr=>K (.one (.i r)) []
 |_,_=>none⟩
end z2o
namespace z2x
abbrev Q :=LT->Int->Option (Int)
end z2x
namespace z2m
abbrev Q :=LT->Int->Option (Int)
end z2m
namespace z30
abbrev Q :=LK->Int->Option (Int)
noncomputable def ent (g:Q):Ent:=⟨94,0,[0,0],λ_ xs H K=>match xs,H with
 |[.one (.l (.n 13) a),.one (.i a2)],[]=>Option.bind (g a a2) λr=>K (.one (.i r)) []
 |_,_=>none⟩
end z30
namespace z4i
abbrev Q :=So->Option (Bool)
noncomputable def ent (g:Q):Ent:=⟨95,0,[0],λ_ xs H K=>match xs,H with
 |[.agg [.l .s a,.l (.n 5) a2]],[]=>Option.bind (g (So.mk a a2)) λr=>K (.one (.b r)) []
 |_,_=>none⟩
end z4i
namespace z4e
abbrev Q :=ByteArray->Option (Bool)
noncomputable def ent (g:Q):Ent:=⟨96,0,[0],λ_ xs H K=>match xs,H with
 |[.one (.s a)],[]=>Option.bind (g a) λr=>K (.one (.b r)) []
 |_,_=>none⟩
end z4e
namespace z5e
abbrev Q :=Sg->Opr->Option (Bool)
noncomputable def ent (g:Q):Ent:=⟨97,0,[0,0],λ_ xs H K=>match xs,H with
 |[.agg [.l .s a,.l (.n 5) a2,.l (.n 8) a3],.agg [.s a4,.l (.n 7) a5,.b a6,.b a7,.i a8]],[]=>Option.bind (g (Sg.mk (So.mk a a2) a3) (Opr.mk a4 a5 a6 a7 a8)) λr=>K (.one (.b r)) []
 |_,_=>none⟩
end z5e
namespace z5d
abbrev Q :=Sg->Int->Option (Bool)
noncomputable def ent (g:Q):Ent:=⟨98,0,[0,0],λ_ xs H K=>match xs,H with
 |[.agg [.l .s a,.l (.n 5) a2,.l (.n 8) a3],.one (.i a4)],[]=>Option.bind (g (Sg.mk (So.mk a a2) a3) a4) λr=>K (.one (.b r)) []
 |_,_=>none⟩
end z5d
namespace z4v
abbrev Q :=Sg->Tm->Tm->Option (Bool)
noncomputable def ent (g:Q):Ent:=⟨99,0,[0,0,0],λ_ xs H K=>match xs,H with
 |[.agg [.l .s a,.l (.n 5) a2,.l (.n 8) a3],.agg [.i a4,.s a5,.i a6,.l (.n 1) a7],.agg [.i a8,.s a9,.i a10,.l (.n 1) a11]],[]=>Option.bind (g (Sg.mk (So.mk a a2) a3) (Tm.mk a4 a5 a6 a7) (Tm.mk a8 a9 a10 a11)) λr=>K (.one (.b r)) []
 |_,_=>none⟩
end z4v
namespace z4w
abbrev Q :=Tm->LT->Option (Bool)
noncomputable def ent (g:Q):Ent:=⟨100,0,[0,0],λ_ xs H K=>match xs,H with
 |[.agg [.i a,.s a2,.i a3,.l (.n 1) a4],.one (.l (.n 1) a5)],[]=>Option.bind (g (Tm.mk a a2 a3 a4) a5) λr=>K (.one (.b r)) []
 |_,_=>none⟩
end z4w
namespace z5v
abbrev Q :=Tm->Option (Bool)
noncomputable def ent (g:Q):Ent:=⟨101,0,[0],λ_ xs H K=>match xs,H with
 |[.agg [.i a,.s a2,.i a3,.l (.n 1) a4]],[]=>Option.bind (g (Tm.mk a a2 a3 a4)) λr=>K (.one (.b r)) []
 |_,_=>none⟩
end z5v
namespace z5o
abbrev Q :=Sg->Tm->Option (Bool)
noncomputable def ent (g:Q):Ent:=⟨102,0,[0,0],λ_ xs H K=>match xs,H with
 |[.agg [.l .s a,.l (.n 5) a2,.l (.n 8) a3],.agg [.i a4,.s a5,.i a6,.l (.n 1) a7]],[]=>Option.bind (g (Sg.mk (So.mk a a2) a3) (Tm.mk a4 a5 a6 a7)) λr=>K (.one (.b r)) []
 |_,_=>none⟩
end z5o
namespace z5f
abbrev Q :=Tm->LT->Option LT
noncomputable def ent (g:Q):Ent:=⟨103,1,[0,0],λ_ xs H K=>match xs,H with
 |[.agg [.i a,.s a2,.i a3,.l (.n 1) a4],.one (.l (.n 1) a5)],[]=>Option.bind (g (Tm.mk a a2 a3 a4) a5) λr=>K (.one (.l (.n 1) r)) []
 |_,_=>none⟩
end z5f
namespace z43
abbrev Q :=Tm->Tm->Option (Int)
noncomputable def ent (g:Q):Ent:=⟨104,0,[0,0],λ_ xs H K=>match xs,H with
 |[.agg [.i a,.s a2,.i a3,.l (.n 1) a4],.agg [.i a5,.s a6,.i a7,.l (.n 1) a8]],[]=>Option.bind (g (Tm.mk a a2 a3 a4) (Tm.mk a5 a6 a7 a8)) λr=>K (.one (.i r)) []
 |_,_=>none⟩
end z43
namespace z3l
abbrev Q :=LK->Option LK
noncomputable def ent (g:Q):Ent:=⟨105,1,[0],λ_ xs H K=>match xs,H with
 |[.one (.l (.n 13) a)],[]=>Option.bind (g a) λr=>K (.one (.l (.n 13) r)) []
 |_,_=>none⟩
end z3l
namespace z0e
abbrev Q :=ByteArray->Option (Bool)
noncomputable def ent (g:Q):Ent:=⟨106,0,[0],λ_ xs H K=>match xs,H with
 |[.one (.s a)],[]=>Option.bind (g a) λr=>K (.one (.b r)) []
 |_,_=>none⟩
end z0e
namespace z1c
abbrev Q :=Od->Opr->Option (Bool)
noncomputable def ent (g:Q):Ent:=⟨107,0,[0,0],λ_ xs H K=>match xs,H with
 |[.agg [.l .i a,.l .i a2,.l .i a3],.agg [.s a4,.l (.n 7) a5,.b a6,.b a7,.i a8]],[]=>Option.bind (g (Od.mk a a2 a3) (Opr.mk a4 a5 a6 a7 a8)) λr=>K (.one (.b r)) []
 |_,_=>none⟩
end z1c
namespace z19
abbrev Q :=Od->Sg->Opr->Option (Bool)
noncomputable def ent (g:Q):Ent:=⟨108,0,[0,0,0],λ_ xs H K=>match xs,H with
 |[.agg [.l .i a,.l .i a2,.l .i a3],.agg [.l .s a4,.l (.n 5) a5,.l (.n 8) a6],.agg [.s a7,.l (.n 7) a8,.b a9,.b a10,.i a11]],[]=>Option.bind (g (Od.mk a a2 a3) (Sg.mk (So.mk a4 a5) a6) (Opr.mk a7 a8 a9 a10 a11)) λr=>K (.one (.b r)) []
 |_,_=>none⟩
end z19
namespace z0i
abbrev Q :=So->Option (Bool)
noncomputable def ent (g:Q):Ent:=⟨109,0,[0],λ_ xs H K=>match xs,H with
 |[.agg [.l .s a,.l (.n 5) a2]],[]=>Option.bind (g (So.mk a a2)) λr=>K (.one (.b r)) []
 |_,_=>none⟩
end z0i
namespace z1o
abbrev Q :=So->Option LI
noncomputable def ent (g:Q):Ent:=⟨110,1,[0],λ_ xs H K=>match xs,H with
 |[.agg [.l .s a,.l (.n 5) a2]],[]=>Option.bind (g (So.mk a a2)) λr=>K (.one (.l .i r)) []
 |_,_=>none⟩
end z1o
namespace z0m
abbrev Q :=Int->Option LI
noncomputable def ent (g:Q):Ent:=⟨111,1,[0],λ_ xs H K=>match xs,H with
 |[.one (.i a)],[]=>Option.bind (g a) λr=>K (.one (.l .i r)) []
 |_,_=>none⟩
end z0m
namespace z6a
abbrev Q :=LQ->Int->Option LQ
end z6a
namespace z6b
abbrev Q :=LQ->Int->Option LQ
noncomputable def ent (g:Q):Ent:=⟨112,2,[1,0],λ_ xs H K=>match xs,H with
 |[.one (.o 0),.one (.i a)],[.row (.n 14) 0 h]=>Option.bind (g h a) λr=>K (.one (.o 1)) [.gone,.row (.n 14) 0 r]
 |_,_=>none⟩
end z6b
namespace z14
abbrev Q :=LI->LI->LI->LB->LS->LO->LM->Tm->Option (Int×LM)
noncomputable def ent (g:Q):Ent:=⟨113,2,[1,0],λ_ xs H K=>match xs,H with
 |[.one (.p 0 0),.agg [.i a,.s a2,.i a3,.l (.n 1) a4]],[.box [.l .i h,.l .i h2,.l .i h3,.l .s h4,.l (.n 5) h5,.l (.n 8) h6,.m 1],.map .i h7]=>Option.bind (g h h2 h3 h4 h5 h6 h7 (Tm.mk a a2 a3 a4)) λr=>K (.one (.i r.1)) [.box [.l .i h,.l .i h2,.l .i h3,.l .s h4,.l (.n 5) h5,.l (.n 8) h6,.m 1],.map .i r.2]
 |_,_=>none⟩
end z14
namespace z1e
abbrev Q :=LT->Tm->Option (Bool)
noncomputable def ent (g:Q):Ent:=⟨114,0,[0,0],λ_ xs H K=>match xs,H with
 |[.one (.l (.n 1) a),.agg [.i a2,.s a3,.i a4,.l (.n 1) a5]],[]=>Option.bind (g a (Tm.mk a2 a3 a4 a5)) λr=>K (.one (.b r)) []
 |_,_=>none⟩
end z1e
namespace z0p
abbrev Q :=Tm->Option (Int)
noncomputable def ent (g:Q):Ent:=⟨115,0,[0],λ_ xs H K=>match xs,H with
 |[.agg [.i a,.s a2,.i a3,.l (.n 1) a4]],[]=>Option.bind (g (Tm.mk a a2 a3 a4)) λr=>K (.one (.i r)) []
 |_,_=>none⟩
end z0p
namespace z0c
abbrev Q :=Tm->Option (Int)
noncomputable def ent (g:Q):Ent:=⟨116,0,[0],λ_ xs H K=>match xs,H with
 |[.agg [.i a,.s a2,.i a3,.l (.n 1) a4]],[]=>Option.bind (g (Tm.mk a a2 a3 a4)) λr=>K (.one (.i r)) []
 |_,_=>none⟩
end z0c
namespace z18
abbrev Q :=LI->LI->LI->LB->LS->LO->LM->Tm->Option (Bool×LM)
noncomputable def ent (g:Q):Ent:=⟨117,2,[1,0],λ_ xs H K=>match xs,H with
 |[.one (.p 0 0),.agg [.i a,.s a2,.i a3,.l (.n 1) a4]],[.box [.l .i h,.l .i h2,.l .i h3,.l .s h4,.l (.n 5) h5,.l (.n 8) h6,.m 1],.map .i h7]=>Option.bind (g h h2 h3 h4 h5 h6 h7 (Tm.mk a a2 a3 a4)) λr=>K (.one (.b r.1)) [.box [.l .i h,.l .i h2,.l .i h3,.l .s h4,.l (.n 5) h5,.l (.n 8) h6,.m 1],.map .i r.2]
 |_,_=>none⟩
end z18
namespace z0s
abbrev Q :=Tm->LT->Option LT
noncomputable def ent (g:Q):Ent:=⟨118,2,[0,1,1],λ_ xs H K=>match xs,H with
 |[.agg [.i a,.s a2,.i a3,.l (.n 1) a4],.one (.p 0 0),.one (.p 2 0)],[.box [.o 1],.row (.n 1) 0 h,.box [.f 118 [.p 0 0,.p 2 0]]]=>Option.bind (g (Tm.mk a a2 a3 a4) h) λr=>K (.tup []) [.box [.o 3],.gone,.box [.f 118 [.p 0 0,.p 2 0]],.row (.n 1) 0 r]
 |_,_=>none⟩
end z0s
namespace z1d
abbrev Q :=LT->Option LT
noncomputable def ent (g:Q):Ent:=⟨119,2,[1],λ_ xs H K=>match xs,H with
 |[.one (.o 0)],[.row (.n 1) 0 h]=>Option.bind (g h) λr=>K (.one (.l (.n 1) r)) [.gone]
 |_,_=>none⟩
end z1d
namespace z0a
abbrev Q :=Tm->Tm->Option (Int)
noncomputable def ent (g:Q):Ent:=⟨120,0,[0,0],λ_ xs H K=>match xs,H with
 |[.agg [.i a,.s a2,.i a3,.l (.n 1) a4],.agg [.i a5,.s a6,.i a7,.l (.n 1) a8]],[]=>Option.bind (g (Tm.mk a a2 a3 a4) (Tm.mk a5 a6 a7 a8)) λr=>K (.one (.i r)) []
 |_,_=>none⟩
end z0a
namespace z33
abbrev Q :=LD->Int->Option (Int)
noncomputable def ent (g:Q):Ent:=⟨121,0,[0,0],λ_ xs H K=>match xs,H with
 |[.one (.l (.n 7) a),.one (.i a2)],[]=>Option.bind (g a a2) λr=>K (.one (.i r)) []
 |_,_=>none⟩
end z33
namespace z61
abbrev Q :=LB->LS->LO->ByteArray->Int->Bool->Int->Option (Tm×Int×Bool)
end z61
namespace z62
abbrev Q :=LB->LS->LO->ByteArray->Int->Bool->Option (Int)
end z62
namespace z4o
abbrev Q :=LB->ByteArray->Option (ByteArray)
noncomputable def ent (g:Q):Ent:=⟨124,0,[0,0],λ_ xs H K=>match xs,H with
 |[.one (.l .s a),.one (.s a2)],[]=>Option.bind (g a a2) λr=>K (.one (.s r)) []
 |_,_=>none⟩
end z4o
namespace z3z
abbrev Q :=Sb->Option (Sb)
noncomputable def ent (g:Q):Ent:=⟨125,1,[0],λ_ xs H K=>match xs,H with
 |[.agg [.i a,.i a2]],[]=>Option.bind (g (Sb.mk a a2)) λr=>K (.agg [.i (Sb.low r),.i (Sb.high r)]) []
 |_,_=>none⟩
end z3z
namespace z3n
abbrev Q :=LD->Option LD
noncomputable def ent (g:Q):Ent:=⟨126,1,[0],λ_ xs H K=>match xs,H with
 |[.one (.l (.n 7) a)],[]=>Option.bind (g a) λr=>K (.one (.l (.n 7) r)) []
 |_,_=>none⟩
end z3n
namespace internalstringslite_Cut
abbrev Q :=ByteArray->ByteArray->Option (ByteArray×ByteArray×Bool)
end internalstringslite_Cut
namespace z0o
abbrev Q :=Sg->ByteArray->Option (Tm×Bool)
end z0o
namespace z0w
abbrev Q :=LI->LI->LI->LB->LS->LO->LM->Tm->Option (ByteArray×LM)
end z0w
namespace z2f
abbrev Q :=Sb->Sb->Option (Bool)
noncomputable def ent (g:Q):Ent:=⟨130,0,[0,0],λ_ xs H K=>match xs,H with
 |[.agg [.i a,.i a2],.agg [.i a3,.i a4]],[]=>Option.bind (g (Sb.mk a a2) (Sb.mk a3 a4)) λr=>K (.one (.b r)) []
 |_,_=>none⟩
end z2f
namespace z21
abbrev Q :=LD->LD->Option (Bool)
noncomputable def ent (g:Q):Ent:=⟨131,0,[0,0],λ_ xs H K=>match xs,H with
 |[.one (.l (.n 7) a),.one (.l (.n 7) a2)],[]=>Option.bind (g a a2) λr=>K (.one (.b r)) []
 |_,_=>none⟩
end z21
namespace z2q
abbrev Q :=LI->Int->Option (Int)
noncomputable def ent (g:Q):Ent:=⟨132,0,[0,0],λ_ xs H K=>match xs,H with
 |[.one (.l .i a),.one (.i a2)],[]=>Option.bind (g a a2) λr=>K (.one (.i r)) []
 |_,_=>none⟩
end z2q
namespace z2z
abbrev Q :=Cnd->Int->Option (Int)
noncomputable def ent (g:Q):Ent:=⟨133,0,[0,0],λ_ xs H K=>match xs,H with
 |[.agg [.i a,.s a2,.i a3,.l (.n 1) a4,.i a5,.s a6,.i a7,.l (.n 1) a8],.one (.i a9)],[]=>Option.bind (g (Cnd.mk (Tm.mk a a2 a3 a4) (Tm.mk a5 a6 a7 a8)) a9) λr=>K (.one (.i r)) []
 |_,_=>none⟩
end z2z
namespace z4z
abbrev Q :=LB->ByteArray->Option (Bool)
noncomputable def ent (g:Q):Ent:=⟨134,0,[0,0],λ_ xs H K=>match xs,H with
 |[.one (.l .s a),.one (.s a2)],[]=>Option.bind (g a a2) λr=>K (.one (.b r)) []
 |_,_=>none⟩
end z4z
namespace z5b
abbrev Q :=So->Option LI
noncomputable def ent (g:Q):Ent:=⟨135,1,[0],λ_ xs H K=>match xs,H with
 |[.agg [.l .s a,.l (.n 5) a2]],[]=>Option.bind (g (So.mk a a2)) λr=>K (.one (.l .i r)) []
 |_,_=>none⟩
end z5b
namespace z57
abbrev Q :=Int->Int->Option (Bool)
noncomputable def ent (g:Q):Ent:=⟨136,0,[0,0],λ_ xs H K=>match xs,H with
 |[.one (.i a),.one (.i a2)],[]=>Option.bind (g a a2) λr=>K (.one (.b r)) []
 |_,_=>none⟩
end z57
namespace z5a
abbrev Q :=So->Option LI
noncomputable def ent (g:Q):Ent:=⟨137,1,[0],λ_ xs H K=>match xs,H with
 |[.agg [.l .s a,.l (.n 5) a2]],[]=>Option.bind (g (So.mk a a2)) λr=>K (.one (.l .i r)) []
 |_,_=>none⟩
end z5a
namespace z5c
abbrev Q :=Opr->Option (Int)
noncomputable def ent (g:Q):Ent:=⟨138,0,[0],λ_ xs H K=>match xs,H with
 |[.agg [.s a,.l (.n 7) a2,.b a3,.b a4,.i a5]],[]=>Option.bind (g (Opr.mk a a2 a3 a4 a5)) λr=>K (.one (.i r)) []
 |_,_=>none⟩
end z5c
namespace z5p
abbrev Q :=Sg->Tm->Option (Int)
noncomputable def ent (g:Q):Ent:=⟨139,0,[0,0],λ_ xs H K=>match xs,H with
 |[.agg [.l .s a,.l (.n 5) a2,.l (.n 8) a3],.agg [.i a4,.s a5,.i a6,.l (.n 1) a7]],[]=>Option.bind (g (Sg.mk (So.mk a a2) a3) (Tm.mk a4 a5 a6 a7)) λr=>K (.one (.i r)) []
 |_,_=>none⟩
end z5p
namespace z5q
abbrev Q :=Tm->Int->Option (Int)
noncomputable def ent (g:Q):Ent:=⟨140,0,[0,0],λ_ xs H K=>match xs,H with
 |[.agg [.i a,.s a2,.i a3,.l (.n 1) a4],.one (.i a5)],[]=>Option.bind (g (Tm.mk a a2 a3 a4) a5) λr=>K (.one (.i r)) []
 |_,_=>none⟩
end z5q
namespace z47
abbrev Q :=Tm->Option (Int)
noncomputable def ent (g:Q):Ent:=⟨141,0,[0],λ_ xs H K=>match xs,H with
 |[.agg [.i a,.s a2,.i a3,.l (.n 1) a4]],[]=>Option.bind (g (Tm.mk a a2 a3 a4)) λr=>K (.one (.i r)) []
 |_,_=>none⟩
end z47
namespace z5t
abbrev Q :=Sg->Tm->Option (Bool)
noncomputable def ent (g:Q):Ent:=⟨142,0,[0,0],λ_ xs H K=>match xs,H with
 |[.agg [.l .s a,.l (.n 5) a2,.l (.n 8) a3],.agg [.i a4,.s a5,.i a6,.l (.n 1) a7]],[]=>Option.bind (g (Sg.mk (So.mk a a2) a3) (Tm.mk a4 a5 a6 a7)) λr=>K (.one (.b r)) []
 |_,_=>none⟩
end z5t
namespace z5u
abbrev Q :=Sg->Tm->Option (Bool)
noncomputable def ent (g:Q):Ent:=⟨143,0,[0,0],λ_ xs H K=>match xs,H with
 |[.agg [.l .s a,.l (.n 5) a2,.l (.n 8) a3],.agg [.i a4,.s a5,.i a6,.l (.n 1) a7]],[]=>Option.bind (g (Sg.mk (So.mk a a2) a3) (Tm.mk a4 a5 a6 a7)) λr=>K (.one (.b r)) []
 |_,_=>none⟩
end z5u
namespace z5k
abbrev Q :=LT->Tm->Option LT
noncomputable def ent (g:Q):Ent:=⟨144,1,[0,0],λ_ xs H K=>match xs,H with
 |[.one (.l (.n 1) a),.agg [.i a2,.s a3,.i a4,.l (.n 1) a5]],[]=>Option.bind (g a (Tm.mk a2 a3 a4 a5)) λr=>K (.one (.l (.n 1) r)) []
 |_,_=>none⟩
end z5k
namespace z5m
abbrev Q :=ByteArray->Int->Option (Tm)
noncomputable def ent (g:Q):Ent:=⟨145,1,[0,0],λ_ xs H K=>match xs,H with
 |[.one (.s a),.one (.i a2)],[]=>Option.bind (g a a2) λr=>K (.agg [.i (Tm.op r),.s (Tm.name r),.i (Tm.sort r),.l (.n 1) (Tm.args r)]) []
 |_,_=>none⟩
end z5m
namespace z5n
abbrev Q :=ByteArray->Int->Option (Tm)
end z5n
namespace z3k
abbrev Q :=Cnd->Option (Cnd)
noncomputable def ent (g:Q):Ent:=⟨146,1,[0],λ_ xs H K=>match xs,H with
 |[.agg [.i a,.s a2,.i a3,.l (.n 1) a4,.i a5,.s a6,.i a7,.l (.n 1) a8]],[]=>Option.bind (g (Cnd.mk (Tm.mk a a2 a3 a4) (Tm.mk a5 a6 a7 a8))) λr=>K (.agg [.i (Tm.op (Cnd.left r)),.s (Tm.name (Cnd.left r)),.i (Tm.sort (Cnd.left r)),.l (.n 1) (Tm.args (Cnd.left r)),.i (Tm.op (Cnd.right r)),.s (Tm.name (Cnd.right r)),.i (Tm.sort (Cnd.right r)),.l (.n 1) (Tm.args (Cnd.right r))]) []
 |_,_=>none⟩
end z3k
namespace z1h
abbrev Q :=Int->Option (Bool)
noncomputable def ent (g:Q):Ent:=⟨147,0,[0],λ_ xs H K=>match xs,H with
 |[.one (.k .u8 a)],[]=>Option.bind (g a) λr=>K (.one (.b r)) []
 |_,_=>none⟩
end z1h
namespace z1l
abbrev Q :=Od->Int->Option (Bool)
noncomputable def ent (g:Q):Ent:=⟨148,0,[0,0],λ_ xs H K=>match xs,H with
 |[.agg [.l .i a,.l .i a2,.l .i a3],.one (.i a4)],[]=>Option.bind (g (Od.mk a a2 a3) a4) λr=>K (.one (.b r)) []
 |_,_=>none⟩
end z1l
namespace z1g
abbrev Q :=Int->Option (Bool)
noncomputable def ent (g:Q):Ent:=⟨149,0,[0],λ_ xs H K=>match xs,H with
 |[.one (.i a)],[]=>Option.bind (g a) λr=>K (.one (.b r)) []
 |_,_=>none⟩
end z1g
namespace z68
abbrev Q :=LT->Tm->Option (Bool)
noncomputable def ent (g:Q):Ent:=⟨150,2,[0,1],λ_ xs H K=>match xs,H with
 |[.one (.l (.n 1) a),.one (.f 151 [.p 0 0])],[.box [.i h,.s h2,.i h3,.l (.n 1) h4]]=>Option.bind (g a (Tm.mk h h2 h3 h4)) λr=>K (.one (.b r)) [.box [.i h,.s h2,.i h3,.l (.n 1) h4]]
 |_,_=>none⟩
end z68
namespace z1f
abbrev Q :=Tm->Tm->Option (Bool)
noncomputable def ent (g:Q):Ent:=⟨151,2,[0,1],λ_ xs H K=>match xs,H with
 |[.agg [.i a,.s a2,.i a3,.l (.n 1) a4],.one (.p 0 0)],[.box [.i h,.s h2,.i h3,.l (.n 1) h4]]=>Option.bind (g (Tm.mk a a2 a3 a4) (Tm.mk h h2 h3 h4)) λr=>K (.one (.b r)) [.box [.i h,.s h2,.i h3,.l (.n 1) h4]]
 |_,_=>none⟩
end z1f
namespace z13
abbrev Q :=LI->LI->LI->LB->LS->LO->LM->Tm->Option (Bool×LM)
noncomputable def ent (g:Q):Ent:=⟨152,2,[1,0],λ_ xs H K=>match xs,H with
 |[.one (.p 0 0),.agg [.i a,.s a2,.i a3,.l (.n 1) a4]],[.box [.l .i h,.l .i h2,.l .i h3,.l .s h4,.l (.n 5) h5,.l (.n 8) h6,.m 1],.map .i h7]=>Option.bind (g h h2 h3 h4 h5 h6 h7 (Tm.mk a a2 a3 a4)) λr=>K (.one (.b r.1)) [.box [.l .i h,.l .i h2,.l .i h3,.l .s h4,.l (.n 5) h5,.l (.n 8) h6,.m 1],.map .i r.2]
 |_,_=>none⟩
end z13
namespace z0u
abbrev Q :=LI->LI->LI->LB->LS->LO->LM->Int->Int->Option (Int×LM)
noncomputable def ent (g:Q):Ent:=⟨153,2,[1,0,0],λ_ xs H K=>match xs,H with
 |[.one (.p 0 0),.one (.i a),.one (.i a2)],[.box [.l .i h,.l .i h2,.l .i h3,.l .s h4,.l (.n 5) h5,.l (.n 8) h6,.m 1],.map .i h7]=>Option.bind (g h h2 h3 h4 h5 h6 h7 a a2) λr=>K (.one (.i r.1)) [.box [.l .i h,.l .i h2,.l .i h3,.l .s h4,.l (.n 5) h5,.l (.n 8) h6,.m 1],.map .i r.2]
 |_,_=>none⟩
end z0u
namespace z12
abbrev Q :=LI->LI->LI->LB->LS->LO->LM->Int->Tm->Option (Bool×LM)
noncomputable def ent (g:Q):Ent:=⟨154,2,[1,0,0],λ_ xs H K=>match xs,H with
 |[.one (.p 0 0),.one (.i a),.agg [.i a2,.s a3,.i a4,.l (.n 1) a5]],[.box [.l .i h,.l .i h2,.l .i h3,.l .s h4,.l (.n 5) h5,.l (.n 8) h6,.m 1],.map .i h7]=>Option.bind (g h h2 h3 h4 h5 h6 h7 a (Tm.mk a2 a3 a4 a5)) λr=>K (.one (.b r.1)) [.box [.l .i h,.l .i h2,.l .i h3,.l .s h4,.l (.n 5) h5,.l (.n 8) h6,.m 1],.map .i r.2]
 |_,_=>none⟩
end z12
namespace z02
abbrev Q :=LI->Option (Int)
noncomputable def ent (g:Q):Ent:=⟨157,0,[0],λ_ xs H K=>match xs,H with
 |[.one (.l .i a)],[]=>Option.bind (g a) λr=>K (.one (.i r)) []
 |_,_=>none⟩
end z02
namespace z01
abbrev Q :=Int->Int->Option (Int)
noncomputable def ent (g:Q):Ent:=⟨158,0,[0,0],λ_ xs H K=>match xs,H with
 |[.one (.i a),.one (.i a2)],[]=>Option.bind (g a a2) λr=>K (.one (.i r)) []
 |_,_=>none⟩
end z01
namespace strings_Compare
abbrev Q :=ByteArray->ByteArray->Option (Int)
noncomputable def ent (g:Q):Ent:=⟨159,0,[0,0],λ_ xs H K=>match xs,H with
 |[.one (.s a),.one (.s a2)],[]=>Option.bind (g a a2) λr=>K (.one (.i r)) []
 |_,_=>none⟩
end strings_Compare
namespace z65
abbrev Q :=LT->LT->Option (Int)
noncomputable def ent (g:Q):Ent:=⟨160,2,[0,0,1],λ_ xs H K=>match xs,H with
 |[.one (.l (.n 1) a),.one (.l (.n 1) a2),.one (.f 120 [])],[]=>Option.bind (g a a2) λr=>K (.one (.i r)) []
 |_,_=>none⟩
end z65
namespace z32
abbrev Q :=Dc->Int->Option (Int)
noncomputable def ent (g:Q):Ent:=⟨161,0,[0,0],λ_ xs H K=>match xs,H with
 |[.agg [.l .i a,.i a2],.one (.i a3)],[]=>Option.bind (g (Dc.mk a a2) a3) λr=>K (.one (.i r)) []
 |_,_=>none⟩
end z32
namespace z60
abbrev Q :=LB->LS->LO->ByteArray->Int->Bool->Option (ByteArray×Int)
end z60
namespace z63
abbrev Q :=LB->LS->LO->ByteArray->Int->Bool->Int->Option (Bool×Int)
end z63
namespace z5y
abbrev Q :=LB->ByteArray->Option (Int)
end z5y
namespace z52
abbrev Q :=Int->Int->Option (Int)
noncomputable def ent (g:Q):Ent:=⟨165,0,[0,0],λ_ xs H K=>match xs,H with
 |[.one (.i a),.one (.i a2)],[]=>Option.bind (g a a2) λr=>K (.one (.i r)) []
 |_,_=>none⟩
end z52
namespace z5r
abbrev Q :=Sg->Int->LT->Option (Tm×Bool)
end z5r
namespace z5s
abbrev Q :=Sg->Int->LT->Option (Tm×Bool)
end z5s
namespace z3m
abbrev Q :=Dc->Option (Dc)
noncomputable def ent (g:Q):Ent:=⟨167,1,[0],λ_ xs H K=>match xs,H with
 |[.agg [.l .i a,.i a2]],[]=>Option.bind (g (Dc.mk a a2)) λr=>K (.agg [.l .i (Dc.args r),.i (Dc.result r)]) []
 |_,_=>none⟩
end z3m
namespace internalstringslite_Index
abbrev Q :=ByteArray->ByteArray->Option (Int)
end internalstringslite_Index
namespace z1t
abbrev Q :=LI->LI->LI->LB->LS->LO->LM->ByteArray->Int->Int->Option (Tm×Bool×Int×LM)
end z1t
namespace z1s
abbrev Q :=LI->LI->LI->LB->LS->LO->LM->ByteArray->Int->Option (Int×LM)
end z1s
namespace z1a
abbrev Q :=Tm->Option (Tm)
end z1a
namespace strings_Join
abbrev Q :=LB->ByteArray->Option (ByteArray)
end strings_Join
namespace z1z
abbrev Q :=Dc->Dc->Option (Bool)
noncomputable def ent (g:Q):Ent:=⟨173,0,[0,0],λ_ xs H K=>match xs,H with
 |[.agg [.l .i a,.i a2],.agg [.l .i a3,.i a4]],[]=>Option.bind (g (Dc.mk a a2) (Dc.mk a3 a4)) λr=>K (.one (.b r)) []
 |_,_=>none⟩
end z1z
namespace z56
abbrev Q :=Int->Option (Int)
noncomputable def ent (g:Q):Ent:=⟨174,0,[0],λ_ xs H K=>match xs,H with
 |[.one (.i a)],[]=>Option.bind (g a) λr=>K (.one (.i r)) []
 |_,_=>none⟩
end z56
namespace z54
abbrev Q :=Int->Int->Option (Int)
noncomputable def ent (g:Q):Ent:=⟨175,0,[0,0],λ_ xs H K=>match xs,H with
 |[.one (.i a),.one (.i a2)],[]=>Option.bind (g a a2) λr=>K (.one (.i r)) []
 |_,_=>none⟩
end z54
namespace z5w
abbrev Q :=Sg->Int->Option (Tm×Bool)
noncomputable def ent (g:Q):Ent:=⟨176,1,[0,0],λ_ xs H K=>match xs,H with
 |[.agg [.l .s a,.l (.n 5) a2,.l (.n 8) a3],.one (.i a4)],[]=>Option.bind (g (Sg.mk (So.mk a a2) a3) a4) λr=>K (.tup [.agg [.i (Tm.op r.1),.s (Tm.name r.1),.i (Tm.sort r.1),.l (.n 1) (Tm.args r.1)],.one (.b r.2)]) []
 |_,_=>none⟩
end z5w
namespace z5x
abbrev Q :=Sg->Int->Option (Tm×Bool)
end z5x
namespace z6e
abbrev Q :=LT->Tm->Option (Int)
noncomputable def ent (g:Q):Ent:=⟨177,2,[0,1],λ_ xs H K=>match xs,H with
 |[.one (.l (.n 1) a),.one (.f 151 [.p 0 0])],[.box [.i h,.s h2,.i h3,.l (.n 1) h4]]=>Option.bind (g a (Tm.mk h h2 h3 h4)) λr=>K (.one (.i r)) [.box [.i h,.s h2,.i h3,.l (.n 1) h4]]
 |_,_=>none⟩
end z6e
namespace z05
abbrev Q :=Int->Option (Bool)
noncomputable def ent (g:Q):Ent:=⟨180,0,[0],λ_ xs H K=>match xs,H with
 |[.one (.i a)],[]=>Option.bind (g a) λr=>K (.one (.b r)) []
 |_,_=>none⟩
end z05
namespace internalbytealg_CompareString
abbrev Q :=ByteArray->ByteArray->Option (Int)
end internalbytealg_CompareString
namespace z36
abbrev Q :=LI->Int->Option (Int)
noncomputable def ent (g:Q):Ent:=⟨182,0,[0,0],λ_ xs H K=>match xs,H with
 |[.one (.l .i a),.one (.i a2)],[]=>Option.bind (g a a2) λr=>K (.one (.i r)) []
 |_,_=>none⟩
end z36
namespace z5i
abbrev Q :=Tm->Option (Tm)
end z5i
namespace z5j
abbrev Q :=Tm->Option (Tm)
end z5j
namespace z4r
abbrev Q :=LT->Option LT
end z4r
namespace z5g
abbrev Q :=LT->Option LT
end z5g
namespace z5h
abbrev Q :=LT->Option LT
end z5h
namespace z3q
abbrev Q :=LI->Option LI
noncomputable def ent (g:Q):Ent:=⟨186,1,[0],λ_ xs H K=>match xs,H with
 |[.one (.l .i a)],[]=>Option.bind (g a) λr=>K (.one (.l .i r)) []
 |_,_=>none⟩
end z3q
namespace internalstringslite_IndexByte
abbrev Q :=ByteArray->Int->Option (Int)
end internalstringslite_IndexByte
namespace internalbytealg_Cutover
abbrev Q :=Int->Option (Int)
end internalbytealg_Cutover
namespace internalbytealg_IndexRabinKarp_string
abbrev Q :=ByteArray->ByteArray->Option (Int)
end internalbytealg_IndexRabinKarp_string
namespace z1r
abbrev Q :=LI->LI->LI->LB->LS->LO->LM->ByteArray->Int->Option (ByteArray×Int×LM)
end z1r
namespace z1q
abbrev Q :=LI->LI->LI->LB->LS->LO->LM->ByteArray->Int->Int->Option (Bool×Int×LM)
end z1q
namespace z6f
abbrev Q :=LB->ByteArray->Option (Int)
end z6f
namespace z6d
abbrev Q :=LO->ByteArray->Option (Int)
end z6d
namespace z1u
abbrev Q :=Opr->ByteArray->Option (Bool)
end z1u
namespace z0v
abbrev Q :=LI->LI->LI->LB->LS->LO->LM->Int->LT->Option (Tm×Bool×LM)
end z0v
namespace z1b
abbrev Q :=LT->Option LT
end z1b
namespace z26
abbrev Q :=LI->LI->Option (Bool)
noncomputable def ent (g:Q):Ent:=⟨201,0,[0,0],λ_ xs H K=>match xs,H with
 |[.one (.l .i a),.one (.l .i a2)],[]=>Option.bind (g a a2) λr=>K (.one (.b r)) []
 |_,_=>none⟩
end z26
namespace z6j
abbrev Q :=LT->Int->Int->Option LT
end z6j
namespace z17
abbrev Q :=LI->LI->LI->LB->LS->LO->LM->Int->Option (Tm×LM)
end z17
namespace z6i
abbrev Q :=LT->Option LT
end z6i
namespace z6l
abbrev Q :=LT->Int->Option LT
end z6l
namespace z6n
abbrev Q :=LT->Int->Int->Int->Option LT
end z6n
namespace z6k
abbrev Q :=LT->Int->Int->Int->Option LT
end z6k
namespace z6m
abbrev Q :=LT->Int->Int->Int->Option LT
end z6m
abbrev EO:=EntOK Tryz.prog
abbrev AE:=AllE Tryz.prog
abbrev PO:=PieceOK Tryz.prog
end Go.Proofs.YtkinkfieackmdaaGreat.Den
namespace Go.Proofs.YtkinkfieackmdaaGreat.Den
open Go.ChangeShapes Go.WideShapes Go.ChangeAt Go.RowKit Go.Deep Go.Joins
open Abs (V AV VRs VR)
def memT (TM:List (Nat×Ty)) (t:Nat) (T:Ty):Bool:=TM.any λp=>Nat.beq p.1 t&&decide (p.2=T)
theorem memT_iff {TM:List (Nat×Ty)} {t:Nat} {T:Ty} (h:memT TM t T=true):(t,T)∈TM:=by
 obtain⟨p,h1,h2⟩:=List.any_eq_true.1 h
 rw[bA]at h2
 have e1:=nB h2.1
 have e2:=of_decide_eq_true h2.2
 rw[<-e1,<-e2]
 exact h1
noncomputable def fieldsT (P:Program) (TM:List (Nat×Ty)):List Field->List Ty->Nat->Bool
 |[],[],_=>true
 |f::fs,T::Ts,off=>Nat.beq f.offset off&&Nat.beq (P.cellsOf f.type) (szT T)&&memT TM f.type T&&fieldsT P TM fs Ts (off+szT T)
 |_,_,_=>false
def szTs :List Ty->Nat
 |[]=>0
 |T::Ts=>szT T+szTs Ts
noncomputable def stepT (P:Program) (TM:List (Nat×Ty)) (t:Nat):Ty->Bool
 | .i=>match P.underlying t with|some (.int .i64)=>true|_=>false
 | .b=>match P.underlying t with|some .bool=>true|_=>false
 | .s=>match P.underlying t with|some .string=>true|_=>false
 | .u=>match P.underlying t with|some (.int .u8)=>true|_=>false
 | .sl T=>match P.underlying t with
  |some (.slice e)=>Nat.beq (P.cellsOf e) (szT T)&&Nat.blt 0 (szT T)&&memT TM e T
  |_=>false
 | .n k=>match P.underlying t with
  |some (.struct fs)=>Nat.beq (P.cellsOf t) (szTs (flds k))&&Nat.blt 0 (szT (.n k))&&fieldsT P TM fs.toList (flds k) 0
  |_=>false
def TMOK (P:Program) (TM:List (Nat×Ty)):Prop:=∀p∈TM,stepT P TM p.1 p.2=true
def Lies (w:World) (T:Ty) (cs:List Value):Prop:=∃(d:I T) (vs:List V),FRs (explode T d) vs/\VRs [] (λb=>b<w.heap.size) w vs cs
theorem lies1 {w:World} {T:Ty} {d:I T} {c:C} {v:V} {u:Value} (he:explode T d=[c]) (hf:FR c v) (hv:VR (λb=>b<w.heap.size) w [] v u):Lies w T [u]:=
 ⟨d, [v], by rw [he]; exact ⟨rfl, fun j h1 h2 => by
  have:j=0:=by simp at h2;omega
  subst this;exact hf⟩,⟨rfl,λj hj=>by
  have:j=0:=by simp at hj;omega
  subst this;exact⟨u,rfl,hv⟩⟩⟩
section
variable {H : Type} {enc : TypeId × Value → H} {P : Program} {w : World} {base : Nat} {spare : Nat → Bool} {held : Bool} {TM : List (Nat × Ty)}
theorem read_fields {fuel:Nat} {cs:List Value} {xs:List (DataW H×List MemPlace)} (ih:∀t T cs x,memT TM t T=true->DataW.trod enc P w base spare held fuel t cs=some x->Lies w T cs):∀{fs:List Field} {Ts:List Ty} {off k:Nat},fieldsT P TM fs Ts off=true->cs.length=off+szTs Ts->xs.length=k+fs.length->
  (∀(i:Nat) (f:Field),fs[i]? =some f->DataW.trod enc P w base spare held fuel f.type ((cs.drop f.offset).take (P.cellsOf f.type))=xs[k+i]?)->
  ∃ds vs,Flds Ts ds/\FRs ds vs/\VRs [] (λb=>b<w.heap.size) w vs (cs.drop off)
 | [], [], off, k, _, hl, _, _ => ⟨[], [], .nil, ⟨rfl, fun j h => by simp at h⟩, by
   rw[List.drop_eq_nil_of_le (by simp[szTs]at hl;omega)]
   exact⟨rfl,λj h=>by simp at h⟩⟩
 | f :: fs, T :: Ts, off, k, h, hl, hx, hf => by
  simp only[fieldsT,bA]at h
  obtain⟨⟨⟨h1,h2⟩,h3⟩,h4⟩:=h
  have h1:=nB h1
  have h2:=nB h2
  have e0:=hf 0 f rfl
  simp only[List.length_cons]at hx
  simp only[szTs]at hl
  rw[Nat.add_zero,List.getElem?_eq_getElem (by omega)]at e0
  rw[h1,h2]at e0
  obtain⟨d,vs,a1,a2⟩:=ih f.type T _ _ h3 e0
  obtain⟨ds,us,b1,b2,b3⟩:=read_fields (cs:=cs) (xs:=xs) ih (k:=k+1) h4 (by omega) (by omega) (λi g hg=>by rw[hf (i+1) g (by simpa using hg)];congr 1;omega)
  refine⟨explode T d++ds,vs++us,.cons d b1,a1.app b2,?_⟩
  have e1:cs.drop off=(cs.drop off).take (szT T)++cs.drop (off+szT T):=by rw[<-List.drop_drop,List.take_append_drop]
  rw[e1]
  exact a2.append b3
 |[],_::_,_,_,h,_,_,_=>by simp[fieldsT]at h
 |_::_,[],_,_,h,_,_,_=>by simp[fieldsT]at h
theorem read_ty (hTM:TMOK P TM):∀(fuel:Nat) (t:Nat) (T:Ty) (cs:List Value) (x:DataW H×List MemPlace),memT TM t T=true->DataW.trod enc P w base spare held fuel t cs=some x->Lies w T cs:=by
 intro fuel
 induction fuel using Nat.strongRecOn with
 | ind fuel ih =>
  intro t T cs x hm h
  have hs:=hTM _ (memT_iff hm)
  simp only at hs
  cases T with
  | i =>
   simp only[stepT]at hs
   split at hs
   ·rename_i ht
    obtain⟨n,rfl,_,wf⟩:=DataW.trod_int ht h
    exact lies1 (T:=.i) (d:=n) rfl .i (.lit wf)
   ·cases hs
  | b =>
   simp only[stepT]at hs
   split at hs
   ·rename_i ht
    obtain⟨b,rfl,_⟩:=DataW.trod_bool ht h
    exact lies1 (T:=.b) (d:=b) rfl .b (.lit trivial)
   ·cases hs
  | s =>
   simp only[stepT]at hs
   split at hs
   ·rename_i ht
    obtain⟨s,rfl,_,wf⟩:=DataW.trod_string ht h
    exact lies1 (T:=.s) (d:=s) rfl .s (.lit wf)
   ·cases hs
  | u =>
   simp only[stepT]at hs
   split at hs
   ·rename_i ht
    obtain⟨n,rfl,_,wf⟩:=DataW.trod_int ht h
    exact lies1 (T:=.u) (d:=n) rfl .k (.lit wf)
   ·cases hs
  | sl T =>
   simp only[stepT]at hs
   split at hs
   ·rename_i e ht
    simp only[bA]at hs
    obtain⟨⟨h1,h2⟩,h3⟩:=hs
    have h1:=nB h1
    have h2:0<szT T:=by simpa [Nat.blt_eq]using h2
    obtain⟨v,rfl⟩:∃v,cs=[v]:=by
     rcases DataW.trod_slice ht h with⟨hc,_⟩|⟨a,len,cap,elems,rest,n,_,hc,_⟩
     ·exact⟨_,hc⟩
     ·exact⟨_,hc⟩
    obtain⟨A,len,cap,rfl,g1,g2,g3⟩:=read_slice ht h1 h2 h
    rcases Nat.eq_zero_or_pos len with rfl|hp
    ·exact lies1 (T:=.sl T) (d:=[]) rfl (FR.nil_ h2) (.imm0 g2)
    ·obtain⟨b,off,n,rfl,rfl,g4⟩:=g3 hp
     have key:∀i,i<len->∃q:I T×List V×List Value,FRs (explode T q.1) q.2.1/\VRs [] (λb=>b<w.heap.size) w q.2.1 q.2.2/\q.2.2.length=szT T/\∀j,j<szT T->w.cell? ⟨b,off+(i*szT T+j),none⟩=q.2.2[j]? :=λi hi=>by
      obtain⟨cs,y,k1,k2,k3⟩:=g4 i hi
      obtain⟨d,vs,k4,k5⟩:=ih n (by omega) e T cs y h3 k3
      exact⟨(d,vs,cs),k4,k5,k1,k2⟩
     have:Inhabited (I T×List V×List Value):=⟨Classical.choose (key 0 hp)⟩
     obtain⟨F,hF⟩:=choose_lt (α:=I T×List V×List Value) (n:=len) (p:=λi q=>FRs (explode T q.1) q.2.1/\VRs [] (λb=>b<w.heap.size) w q.2.1 q.2.2/\q.2.2.length=szT T/\∀j,j<szT T->w.cell? ⟨b,off+(i*szT T+j),none⟩=q.2.2[j]?) key
     have hb:b<w.heap.size:=by
      obtain⟨_,_,f3,f4⟩:=hF 0 hp
      have:=f4 0 h2
      rw[List.getElem?_eq_getElem (by omega)]at this
      rcases Nat.lt_or_ge b w.heap.size with h|h
      ·exact h
      ·simp[World.cell?,Array.getElem?_eq_none h]at this
     have hvl:∀i,i<len->(F i).2.1.length=szT T:=λi hi=>by
      obtain⟨_,f2,f3,_⟩:=hF i hi
      rw[<-f2.1,f3]
     have hfr:FR (.l T ((List.range len).map λi=>(F i).1)) (.imm (szT T) ((List.range len).map λi=>(F i).2.1)):=by
      refine .l h2 (by simp) (λe he=> ?_) (λm m1 m2 j j1 j2=> ?_)
      ·obtain⟨i,hi,rfl⟩:=List.mem_map.1 he
       exact hvl i (by simpa using hi)
      ·have hm:m<len:=by simpa using m1
       simp only[List.getElem_map,List.getElem_range]at j1 j2 ⊢
       exact(hF m hm).1.2 j j1 j2
     have hvr:VR (λb=>b<w.heap.size) w [] (.imm (szT T) ((List.range len).map λi=>(F i).2.1)) (.slice (some ⟨b,off,none⟩) len cap):=by
      have hl:((List.range len).map λi=>(F i).2.1).length=len:=by simp
      have:=VR.imm (I:=λb=>b<w.heap.size) (w:=w) (ι:=[]) (s:=szT T) (b:=b) (off:=off) (c:=cap) (es:=(List.range len).map λi=>(F i).2.1) (f:=λk j=>(F k).2.2.getD j undef) (λe he=>by
       obtain⟨i,hi,rfl⟩:=List.mem_map.1 he
       exact hvl i (by simpa using hi)) (by rw[hl];exact g1) g2 hb (λk j hk hj=>by
       rw[hl]at hk
       obtain⟨_,f2,f3,f4⟩:=hF k hk
       rw[f4 j hj,List.getElem?_eq_getElem (by omega)]
       simp[List.getD,f3,hj]) (λk hk j hj=>by
       have hk':k<len:=by simpa using hk
       simp only[List.getElem_map,List.getElem_range]at hj ⊢
       obtain⟨_,f2,f3,_⟩:=hF k hk'
       obtain⟨u,u1,u2⟩:=f2.2 j hj
       have:(F k).2.2.getD j undef=u:=by simp[List.getD,u1]
       rw[this]
       exact u2)
      rw[hl]at this
      exact this
     exact lies1 (T:=.sl T) (d:=(List.range len).map λi=>(F i).1) rfl hfr hvr
   ·cases hs
  | n k =>
   simp only[stepT]at hs
   split at hs
   ·rename_i fs ht
    simp only[bA]at hs
    obtain⟨⟨h1,h2⟩,h3⟩:=hs
    have h1:=nB h1
    have h2:0<szT (.n k):=by simpa [Nat.blt_eq]using h2
    obtain⟨xs,n,rfl,_,hcl,hxl,hf⟩:=DataW.trod_struct ht h
    obtain⟨ds,vs,a1,a2,a3⟩:=read_fields (cs:=cs) (xs:=xs) (k:=0) (λt T cs x=>ih n (by omega) t T cs x) h3 (by rw[hcl,h1];omega) (by simpa using hxl) (λi f hi=>by rw[Nat.zero_add];exact hf i f (by simpa using hi))
    obtain⟨d,rfl⟩:=flds_mk k ds h2 a1
    exact⟨d,vs,a2,by simpa using a3⟩
   ·cases hs
end
theorem calls_law {P:Program} {f:FuncId} {xs:List AT} (hc:CFn P f xs [] (.one (.b true)) []) {w:World} {avs:List AV} {vs:Array Value} (hx:ATRs [] [] xs avs) (hA:Abs.ARs [] (λb=>b<w.heap.size) w avs vs):
  Calls P f vs w λe w'=>e= .returned (.bool true)/\Below w.heap.size w w':=by
 have hF:=hc [] [] avs HpR.nil_ hx
 refine(hF.2 w (λb=>b<w.heap.size) [] vs (Abs.HR.nil _ w) (λ_ h=>h) hA).mono ?_
 rintro e w' ⟨r,h',ι',I',c,⟨ρ',hr,_,_⟩,rfl,D⟩
 obtain⟨u,rfl,hu⟩:=hr.one'
 have e1:=hu.bool
 subst e1
 have:=D.res.bool
 subst this
 exact⟨rfl,⟨D.os,D.tape,D.output,D.grown,λb hb=>D.frame b hb (Abs.noPass b)⟩⟩
theorem ars_nil {w:World}:Abs.ARs [] (λb=>b<w.heap.size) w [] #[]:=⟨rfl,λj h=>by simp at h⟩
theorem ars_cons {w:World} {av:AV} {avs:List AV} {v:Value} {vs:List Value} (h:Abs.AR [] (λb=>b<w.heap.size) w av v) (k:Abs.ARs [] (λb=>b<w.heap.size) w avs vs.toArray):Abs.ARs [] (λb=>b<w.heap.size) w (av::avs) (v::vs).toArray:=by
 refine⟨by have:=k.1;simpa using this,λj hj=> ?_⟩
 cases j with
 |zero=>exact⟨v,by simp,h⟩
 | succ j =>
  obtain⟨c,c1,c2⟩:=k.2 j (by simpa using hj)
  exact⟨c,by simpa using c1,c2⟩
end Go.Proofs.YtkinkfieackmdaaGreat.Den
