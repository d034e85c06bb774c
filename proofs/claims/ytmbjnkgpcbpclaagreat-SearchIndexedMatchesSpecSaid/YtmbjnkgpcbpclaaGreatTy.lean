/- The types' table of the seat (printed by wip/gen/ty.py). -/
import Derived.Test.YtmbjnkgpcbpclaaGreatProg
import Derived.Test.YtmbjnkgpcbpclaaGreatV3
set_option linter.all false
namespace Go.Proofs.YtmbjnkgpcbpclaaGreat
open Go Go.Vc
def tab : List (Nat × TI) := [
  (2, ⟨.int .i64, 1, 8, [.int .i64 0]⟩),
  (3, ⟨.int .i64, 1, 8, [.int .i64 0]⟩),
  (4, ⟨.bool, 1, 1, [.bool false]⟩),
  (5, ⟨.int .u8, 1, 1, [.int .u8 0]⟩),
  (9, ⟨.str, 1, 16, [.str []]⟩),
  (12, ⟨.int .u64, 1, 8, [.int .u64 0]⟩),
  (15, ⟨.ptr 202, 1, 8, [.nilp]⟩),
  (16, ⟨.ptr 205, 1, 8, [.nilp]⟩),
  (17, ⟨.ptr 212, 1, 8, [.nilp]⟩),
  (20, ⟨.other, 1, 16, [.ifc true]⟩),
  (21, ⟨.int .i32, 1, 4, [.int .i32 0]⟩),
  (22, ⟨.slice 9, 1, 24, [.nils]⟩),
  (23, ⟨.slice 55, 1, 24, [.nils]⟩),
  (24, ⟨.struct [(0, 1, false)] [], 1, 24, [.nils]⟩),
  (25, ⟨.struct [(0, 1, false)] [], 1, 24, [.nils]⟩),
  (27, ⟨.slice 3, 1, 24, [.nils]⟩),
  (28, ⟨.struct [(0, 1, false), (1, 1, false)] [.i .i64, .i .i64], 2, 16, [.int .i64 0, .int .i64 0]⟩),
  (29, ⟨.struct [(0, 1, false), (1, 1, false)] [.i .i64, .i .i64], 2, 16, [.int .i64 0, .int .i64 0]⟩),
  (47, ⟨.slice 85, 1, 24, [.nils]⟩),
  (48, ⟨.struct [(0, 1, false), (1, 1, false)] [], 2, 48, [.nils, .nils]⟩),
  (49, ⟨.struct [(0, 1, false), (1, 1, false)] [], 2, 48, [.nils, .nils]⟩),
  (54, ⟨.struct [(0, 1, false), (1, 1, false), (2, 1, false), (3, 1, false)] [.i .i64, .s, .i .i64, .i .i64], 4, 40, [.int .i64 0, .str [], .int .i64 0, .int .i64 0]⟩),
  (55, ⟨.struct [(0, 1, false), (1, 1, false), (2, 1, false), (3, 1, false)] [.i .i64, .s, .i .i64, .i .i64], 4, 40, [.int .i64 0, .str [], .int .i64 0, .int .i64 0]⟩),
  (74, ⟨.struct [(0, 1, false), (1, 1, false), (2, 1, false)] [], 3, 48, [.str [], .int .i64 0, .nils]⟩),
  (75, ⟨.struct [(0, 1, false), (1, 1, false), (2, 1, false)] [], 3, 48, [.str [], .int .i64 0, .nils]⟩),
  (77, ⟨.ptr 79, 1, 8, [.nilp]⟩),
  (78, ⟨.struct [(0, 1, false), (1, 1, false), (2, 1, false)] [], 3, 72, [.nils, .nils, .nils]⟩),
  (79, ⟨.struct [(0, 1, false), (1, 1, false), (2, 1, false)] [], 3, 72, [.nils, .nils, .nils]⟩),
  (84, ⟨.struct [(0, 1, false), (1, 1, false)] [], 2, 40, [.str [], .nils]⟩),
  (85, ⟨.struct [(0, 1, false), (1, 1, false)] [], 2, 40, [.str [], .nils]⟩),
  (89, ⟨.ptr 49, 1, 8, [.nilp]⟩),
  (96, ⟨.slice 4, 1, 24, [.nils]⟩),
  (97, ⟨.array 2 3, 2, 16, [.int .i64 0, .int .i64 0]⟩),
  (98, ⟨.ptr 75, 1, 8, [.nilp]⟩),
  (102, ⟨.ptr 131, 1, 8, [.nilp]⟩),
  (107, ⟨.slice 27, 1, 24, [.nils]⟩),
  (116, ⟨.struct [] [], 0, 0, []⟩),
  (117, ⟨.struct [] [], 0, 0, []⟩),
  (118, ⟨.struct [] [], 0, 0, []⟩),
  (119, ⟨.int .u32, 1, 4, [.int .u32 0]⟩),
  (120, ⟨.struct [(0, 0, true), (0, 1, false)] [], 1, 4, [.int .u32 0]⟩),
  (121, ⟨.struct [(0, 0, true), (0, 1, false)] [], 1, 4, [.int .u32 0]⟩),
  (124, ⟨.struct [(0, 0, true), (0, 2, true)] [], 2, 8, [.int .i32 0, .int .u32 0]⟩),
  (125, ⟨.struct [(0, 0, true), (0, 2, true)] [], 2, 8, [.int .i32 0, .int .u32 0]⟩),
  (126, ⟨.struct [(0, 0, true), (0, 1, true), (1, 2, true)] [], 3, 12, [.int .u32 0, .int .i32 0, .int .u32 0]⟩),
  (127, ⟨.struct [(0, 0, true), (0, 1, true), (1, 2, true)] [], 3, 12, [.int .u32 0, .int .i32 0, .int .u32 0]⟩),
  (128, ⟨.other, 1, 16, [.ifc true]⟩),
  (129, ⟨.other, 1, 16, [.ifc true]⟩),
  (130, ⟨.struct [(0, 3, true), (3, 1, false), (4, 1, false)] [], 5, 56, [.int .u32 0, .int .i32 0, .int .u32 0, .ifc true, .nils]⟩),
  (131, ⟨.struct [(0, 3, true), (3, 1, false), (4, 1, false)] [], 5, 56, [.int .u32 0, .int .i32 0, .int .u32 0, .ifc true, .nils]⟩),
  (140, ⟨.ptr 143, 1, 8, [.nilp]⟩),
  (141, ⟨.slice 5, 1, 24, [.nils]⟩),
  (142, ⟨.struct [(0, 1, false), (1, 1, false)] [], 2, 32, [.nilp, .nils]⟩),
  (143, ⟨.struct [(0, 1, false), (1, 1, false)] [], 2, 32, [.nilp, .nils]⟩),
  (144, ⟨.other, 1, 16, [.ifc true]⟩),
  (145, ⟨.other, 1, 16, [.ifc true]⟩),
  (148, ⟨.ptr 127, 1, 8, [.nilp]⟩),
  (150, ⟨.int .u64, 1, 8, [.int .u64 0]⟩),
  (153, ⟨.ptr 5, 1, 8, [.nilp]⟩),
  (154, ⟨.ptr 121, 1, 8, [.nilp]⟩),
  (156, ⟨.ptr 119, 1, 8, [.nilp]⟩),
  (158, ⟨.ptr 180, 1, 8, [.nilp]⟩),
  (160, ⟨.ptr 186, 1, 8, [.nilp]⟩),
  (162, ⟨.array 256 5, 256, 256, []⟩),
  (163, ⟨.array 256 5, 256, 256, []⟩),
  (164, ⟨.ptr 163, 1, 8, [.nilp]⟩),
  (165, ⟨.array 256 141, 256, 6144, []⟩),
  (166, ⟨.struct [(0, 256, true), (256, 1, false)] [], 257, 6168, List.replicate 257 (.nils)⟩),
  (167, ⟨.struct [(0, 256, true), (256, 1, false)] [], 257, 6168, List.replicate 257 (.nils)⟩),
  (168, ⟨.ptr 167, 1, 8, [.nilp]⟩),
  (174, ⟨.ptr 125, 1, 8, [.nilp]⟩),
  (177, ⟨.ptr 197, 1, 8, [.nilp]⟩),
  (179, ⟨.struct [(0, 1, false), (1, 1, false)] [], 2, 24, [.nilp, .str []]⟩),
  (180, ⟨.struct [(0, 1, false), (1, 1, false)] [], 2, 24, [.nilp, .str []]⟩),
  (181, ⟨.ptr 184, 1, 8, [.nilp]⟩),
  (182, ⟨.slice 181, 1, 24, [.nils]⟩),
  (183, ⟨.struct [(0, 1, false), (1, 1, false), (2, 1, false), (3, 1, false), (4, 1, false)] [], 5, 72, [.str [], .int .i64 0, .str [], .nilp, .nils]⟩),
  (184, ⟨.struct [(0, 1, false), (1, 1, false), (2, 1, false), (3, 1, false), (4, 1, false)] [], 5, 72, [.str [], .int .i64 0, .str [], .nilp, .nils]⟩),
  (185, ⟨.struct [(0, 5, true), (5, 1, false), (6, 256, true)] [], 262, 336, []⟩),
  (186, ⟨.struct [(0, 5, true), (5, 1, false), (6, 256, true)] [], 262, 336, []⟩),
  (191, ⟨.ptr 21, 1, 8, [.nilp]⟩),
  (195, ⟨.array 256 3, 256, 2048, []⟩),
  (196, ⟨.struct [(0, 1, false), (1, 256, true), (257, 1, false)] [], 258, 2088, []⟩),
  (197, ⟨.struct [(0, 1, false), (1, 256, true), (257, 1, false)] [], 258, 2088, []⟩),
  (203, ⟨.array 0 16, 0, 0, []⟩),
  (219, ⟨.slice 5, 1, 24, [.nils]⟩),
  (220, ⟨.ptr 219, 1, 8, [.nilp]⟩),
  (221, ⟨.other, 1, 16, [.ifc true]⟩),
  (222, ⟨.other, 1, 16, [.ifc true]⟩),
  (223, ⟨.other, 1, 16, [.ifc true]⟩),
  (224, ⟨.other, 1, 16, [.ifc true]⟩),
  (229, ⟨.struct [(0, 1, false)] [], 1, 16, [.ifc true]⟩),
  (230, ⟨.struct [(0, 1, false)] [], 1, 16, [.ifc true]⟩)]
theorem YU : tab.all (fun p => ZQ Tryz.prog p.1 p.2) = true := by kernel_rfl
def T : LR Tryz.prog := LR.ofTab tab YU
theorem ty2 : T.ty 2 = some ⟨.int .i64, 1, 8, [.int .i64 0]⟩ := rfl
theorem ty3 : T.ty 3 = some ⟨.int .i64, 1, 8, [.int .i64 0]⟩ := rfl
theorem ty4 : T.ty 4 = some ⟨.bool, 1, 1, [.bool false]⟩ := rfl
theorem ty5 : T.ty 5 = some ⟨.int .u8, 1, 1, [.int .u8 0]⟩ := rfl
theorem ty9 : T.ty 9 = some ⟨.str, 1, 16, [.str []]⟩ := rfl
theorem ty12 : T.ty 12 = some ⟨.int .u64, 1, 8, [.int .u64 0]⟩ := rfl
theorem ty15 : T.ty 15 = some ⟨.ptr 202, 1, 8, [.nilp]⟩ := rfl
theorem ty16 : T.ty 16 = some ⟨.ptr 205, 1, 8, [.nilp]⟩ := rfl
theorem ty17 : T.ty 17 = some ⟨.ptr 212, 1, 8, [.nilp]⟩ := rfl
theorem ty20 : T.ty 20 = some ⟨.other, 1, 16, [.ifc true]⟩ := rfl
theorem ty21 : T.ty 21 = some ⟨.int .i32, 1, 4, [.int .i32 0]⟩ := rfl
theorem ty22 : T.ty 22 = some ⟨.slice 9, 1, 24, [.nils]⟩ := rfl
theorem ty23 : T.ty 23 = some ⟨.slice 55, 1, 24, [.nils]⟩ := rfl
theorem ty24 : T.ty 24 = some ⟨.struct [(0, 1, false)] [], 1, 24, [.nils]⟩ := rfl
theorem ty25 : T.ty 25 = some ⟨.struct [(0, 1, false)] [], 1, 24, [.nils]⟩ := rfl
theorem ty27 : T.ty 27 = some ⟨.slice 3, 1, 24, [.nils]⟩ := rfl
theorem ty28 : T.ty 28 = some ⟨.struct [(0, 1, false), (1, 1, false)] [.i .i64, .i .i64], 2, 16, [.int .i64 0, .int .i64 0]⟩ := rfl
theorem ty29 : T.ty 29 = some ⟨.struct [(0, 1, false), (1, 1, false)] [.i .i64, .i .i64], 2, 16, [.int .i64 0, .int .i64 0]⟩ := rfl
theorem ty47 : T.ty 47 = some ⟨.slice 85, 1, 24, [.nils]⟩ := rfl
theorem ty48 : T.ty 48 = some ⟨.struct [(0, 1, false), (1, 1, false)] [], 2, 48, [.nils, .nils]⟩ := rfl
theorem ty49 : T.ty 49 = some ⟨.struct [(0, 1, false), (1, 1, false)] [], 2, 48, [.nils, .nils]⟩ := rfl
theorem ty54 : T.ty 54 = some ⟨.struct [(0, 1, false), (1, 1, false), (2, 1, false), (3, 1, false)] [.i .i64, .s, .i .i64, .i .i64], 4, 40, [.int .i64 0, .str [], .int .i64 0, .int .i64 0]⟩ := rfl
theorem ty55 : T.ty 55 = some ⟨.struct [(0, 1, false), (1, 1, false), (2, 1, false), (3, 1, false)] [.i .i64, .s, .i .i64, .i .i64], 4, 40, [.int .i64 0, .str [], .int .i64 0, .int .i64 0]⟩ := rfl
theorem ty74 : T.ty 74 = some ⟨.struct [(0, 1, false), (1, 1, false), (2, 1, false)] [], 3, 48, [.str [], .int .i64 0, .nils]⟩ := rfl
theorem ty75 : T.ty 75 = some ⟨.struct [(0, 1, false), (1, 1, false), (2, 1, false)] [], 3, 48, [.str [], .int .i64 0, .nils]⟩ := rfl
theorem ty77 : T.ty 77 = some ⟨.ptr 79, 1, 8, [.nilp]⟩ := rfl
theorem ty78 : T.ty 78 = some ⟨.struct [(0, 1, false), (1, 1, false), (2, 1, false)] [], 3, 72, [.nils, .nils, .nils]⟩ := rfl
theorem ty79 : T.ty 79 = some ⟨.struct [(0, 1, false), (1, 1, false), (2, 1, false)] [], 3, 72, [.nils, .nils, .nils]⟩ := rfl
theorem ty84 : T.ty 84 = some ⟨.struct [(0, 1, false), (1, 1, false)] [], 2, 40, [.str [], .nils]⟩ := rfl
theorem ty85 : T.ty 85 = some ⟨.struct [(0, 1, false), (1, 1, false)] [], 2, 40, [.str [], .nils]⟩ := rfl
theorem ty89 : T.ty 89 = some ⟨.ptr 49, 1, 8, [.nilp]⟩ := rfl
theorem ty96 : T.ty 96 = some ⟨.slice 4, 1, 24, [.nils]⟩ := rfl
theorem ty97 : T.ty 97 = some ⟨.array 2 3, 2, 16, [.int .i64 0, .int .i64 0]⟩ := rfl
theorem ty98 : T.ty 98 = some ⟨.ptr 75, 1, 8, [.nilp]⟩ := rfl
theorem ty102 : T.ty 102 = some ⟨.ptr 131, 1, 8, [.nilp]⟩ := rfl
theorem ty107 : T.ty 107 = some ⟨.slice 27, 1, 24, [.nils]⟩ := rfl
theorem ty116 : T.ty 116 = some ⟨.struct [] [], 0, 0, []⟩ := rfl
theorem ty117 : T.ty 117 = some ⟨.struct [] [], 0, 0, []⟩ := rfl
theorem ty118 : T.ty 118 = some ⟨.struct [] [], 0, 0, []⟩ := rfl
theorem ty119 : T.ty 119 = some ⟨.int .u32, 1, 4, [.int .u32 0]⟩ := rfl
theorem ty120 : T.ty 120 = some ⟨.struct [(0, 0, true), (0, 1, false)] [], 1, 4, [.int .u32 0]⟩ := rfl
theorem ty121 : T.ty 121 = some ⟨.struct [(0, 0, true), (0, 1, false)] [], 1, 4, [.int .u32 0]⟩ := rfl
theorem ty124 : T.ty 124 = some ⟨.struct [(0, 0, true), (0, 2, true)] [], 2, 8, [.int .i32 0, .int .u32 0]⟩ := rfl
theorem ty125 : T.ty 125 = some ⟨.struct [(0, 0, true), (0, 2, true)] [], 2, 8, [.int .i32 0, .int .u32 0]⟩ := rfl
theorem ty126 : T.ty 126 = some ⟨.struct [(0, 0, true), (0, 1, true), (1, 2, true)] [], 3, 12, [.int .u32 0, .int .i32 0, .int .u32 0]⟩ := rfl
theorem ty127 : T.ty 127 = some ⟨.struct [(0, 0, true), (0, 1, true), (1, 2, true)] [], 3, 12, [.int .u32 0, .int .i32 0, .int .u32 0]⟩ := rfl
theorem ty128 : T.ty 128 = some ⟨.other, 1, 16, [.ifc true]⟩ := rfl
theorem ty129 : T.ty 129 = some ⟨.other, 1, 16, [.ifc true]⟩ := rfl
theorem ty130 : T.ty 130 = some ⟨.struct [(0, 3, true), (3, 1, false), (4, 1, false)] [], 5, 56, [.int .u32 0, .int .i32 0, .int .u32 0, .ifc true, .nils]⟩ := rfl
theorem ty131 : T.ty 131 = some ⟨.struct [(0, 3, true), (3, 1, false), (4, 1, false)] [], 5, 56, [.int .u32 0, .int .i32 0, .int .u32 0, .ifc true, .nils]⟩ := rfl
theorem ty140 : T.ty 140 = some ⟨.ptr 143, 1, 8, [.nilp]⟩ := rfl
theorem ty141 : T.ty 141 = some ⟨.slice 5, 1, 24, [.nils]⟩ := rfl
theorem ty142 : T.ty 142 = some ⟨.struct [(0, 1, false), (1, 1, false)] [], 2, 32, [.nilp, .nils]⟩ := rfl
theorem ty143 : T.ty 143 = some ⟨.struct [(0, 1, false), (1, 1, false)] [], 2, 32, [.nilp, .nils]⟩ := rfl
theorem ty144 : T.ty 144 = some ⟨.other, 1, 16, [.ifc true]⟩ := rfl
theorem ty145 : T.ty 145 = some ⟨.other, 1, 16, [.ifc true]⟩ := rfl
theorem ty148 : T.ty 148 = some ⟨.ptr 127, 1, 8, [.nilp]⟩ := rfl
theorem ty150 : T.ty 150 = some ⟨.int .u64, 1, 8, [.int .u64 0]⟩ := rfl
theorem ty153 : T.ty 153 = some ⟨.ptr 5, 1, 8, [.nilp]⟩ := rfl
theorem ty154 : T.ty 154 = some ⟨.ptr 121, 1, 8, [.nilp]⟩ := rfl
theorem ty156 : T.ty 156 = some ⟨.ptr 119, 1, 8, [.nilp]⟩ := rfl
theorem ty158 : T.ty 158 = some ⟨.ptr 180, 1, 8, [.nilp]⟩ := rfl
theorem ty160 : T.ty 160 = some ⟨.ptr 186, 1, 8, [.nilp]⟩ := rfl
theorem ty162 : T.ty 162 = some ⟨.array 256 5, 256, 256, []⟩ := rfl
theorem ty163 : T.ty 163 = some ⟨.array 256 5, 256, 256, []⟩ := rfl
theorem ty164 : T.ty 164 = some ⟨.ptr 163, 1, 8, [.nilp]⟩ := rfl
theorem ty165 : T.ty 165 = some ⟨.array 256 141, 256, 6144, []⟩ := rfl
theorem ty166 : T.ty 166 = some ⟨.struct [(0, 256, true), (256, 1, false)] [], 257, 6168, List.replicate 257 (.nils)⟩ := rfl
theorem ty167 : T.ty 167 = some ⟨.struct [(0, 256, true), (256, 1, false)] [], 257, 6168, List.replicate 257 (.nils)⟩ := rfl
theorem ty168 : T.ty 168 = some ⟨.ptr 167, 1, 8, [.nilp]⟩ := rfl
theorem ty174 : T.ty 174 = some ⟨.ptr 125, 1, 8, [.nilp]⟩ := rfl
theorem ty177 : T.ty 177 = some ⟨.ptr 197, 1, 8, [.nilp]⟩ := rfl
theorem ty179 : T.ty 179 = some ⟨.struct [(0, 1, false), (1, 1, false)] [], 2, 24, [.nilp, .str []]⟩ := rfl
theorem ty180 : T.ty 180 = some ⟨.struct [(0, 1, false), (1, 1, false)] [], 2, 24, [.nilp, .str []]⟩ := rfl
theorem ty181 : T.ty 181 = some ⟨.ptr 184, 1, 8, [.nilp]⟩ := rfl
theorem ty182 : T.ty 182 = some ⟨.slice 181, 1, 24, [.nils]⟩ := rfl
theorem ty183 : T.ty 183 = some ⟨.struct [(0, 1, false), (1, 1, false), (2, 1, false), (3, 1, false), (4, 1, false)] [], 5, 72, [.str [], .int .i64 0, .str [], .nilp, .nils]⟩ := rfl
theorem ty184 : T.ty 184 = some ⟨.struct [(0, 1, false), (1, 1, false), (2, 1, false), (3, 1, false), (4, 1, false)] [], 5, 72, [.str [], .int .i64 0, .str [], .nilp, .nils]⟩ := rfl
theorem ty185 : T.ty 185 = some ⟨.struct [(0, 5, true), (5, 1, false), (6, 256, true)] [], 262, 336, []⟩ := rfl
theorem ty186 : T.ty 186 = some ⟨.struct [(0, 5, true), (5, 1, false), (6, 256, true)] [], 262, 336, []⟩ := rfl
theorem ty191 : T.ty 191 = some ⟨.ptr 21, 1, 8, [.nilp]⟩ := rfl
theorem ty195 : T.ty 195 = some ⟨.array 256 3, 256, 2048, []⟩ := rfl
theorem ty196 : T.ty 196 = some ⟨.struct [(0, 1, false), (1, 256, true), (257, 1, false)] [], 258, 2088, []⟩ := rfl
theorem ty197 : T.ty 197 = some ⟨.struct [(0, 1, false), (1, 256, true), (257, 1, false)] [], 258, 2088, []⟩ := rfl
theorem ty203 : T.ty 203 = some ⟨.array 0 16, 0, 0, []⟩ := rfl
theorem ty219 : T.ty 219 = some ⟨.slice 5, 1, 24, [.nils]⟩ := rfl
theorem ty220 : T.ty 220 = some ⟨.ptr 219, 1, 8, [.nilp]⟩ := rfl
theorem ty221 : T.ty 221 = some ⟨.other, 1, 16, [.ifc true]⟩ := rfl
theorem ty222 : T.ty 222 = some ⟨.other, 1, 16, [.ifc true]⟩ := rfl
theorem ty223 : T.ty 223 = some ⟨.other, 1, 16, [.ifc true]⟩ := rfl
theorem ty224 : T.ty 224 = some ⟨.other, 1, 16, [.ifc true]⟩ := rfl
theorem ty229 : T.ty 229 = some ⟨.struct [(0, 1, false)] [], 1, 16, [.ifc true]⟩ := rfl
theorem ty230 : T.ty 230 = some ⟨.struct [(0, 1, false)] [], 1, 16, [.ifc true]⟩ := rfl
theorem LO : T.ty 2 = some ⟨.int .i64, 1, 8, [.int .i64 0]⟩ ∧ T.ty 3 = some ⟨.int .i64, 1, 8, [.int .i64 0]⟩ ∧ T.ty 4 = some ⟨.bool, 1, 1, [.bool false]⟩ ∧ T.ty 5 = some ⟨.int .u8, 1, 1, [.int .u8 0]⟩ ∧ T.ty 9 = some ⟨.str, 1, 16, [.str []]⟩ ∧ T.ty 12 = some ⟨.int .u64, 1, 8, [.int .u64 0]⟩ ∧ T.ty 15 = some ⟨.ptr 202, 1, 8, [.nilp]⟩ ∧ T.ty 16 = some ⟨.ptr 205, 1, 8, [.nilp]⟩ ∧ T.ty 17 = some ⟨.ptr 212, 1, 8, [.nilp]⟩ ∧ T.ty 20 = some ⟨.other, 1, 16, [.ifc true]⟩ ∧ T.ty 21 = some ⟨.int .i32, 1, 4, [.int .i32 0]⟩ ∧ T.ty 22 = some ⟨.slice 9, 1, 24, [.nils]⟩ ∧ T.ty 23 = some ⟨.slice 55, 1, 24, [.nils]⟩ ∧ T.ty 24 = some ⟨.struct [(0, 1, false)] [], 1, 24, [.nils]⟩ ∧ T.ty 25 = some ⟨.struct [(0, 1, false)] [], 1, 24, [.nils]⟩ ∧ T.ty 27 = some ⟨.slice 3, 1, 24, [.nils]⟩ ∧ T.ty 28 = some ⟨.struct [(0, 1, false), (1, 1, false)] [.i .i64, .i .i64], 2, 16, [.int .i64 0, .int .i64 0]⟩ ∧ T.ty 29 = some ⟨.struct [(0, 1, false), (1, 1, false)] [.i .i64, .i .i64], 2, 16, [.int .i64 0, .int .i64 0]⟩ ∧ T.ty 47 = some ⟨.slice 85, 1, 24, [.nils]⟩ ∧ T.ty 48 = some ⟨.struct [(0, 1, false), (1, 1, false)] [], 2, 48, [.nils, .nils]⟩ ∧ T.ty 49 = some ⟨.struct [(0, 1, false), (1, 1, false)] [], 2, 48, [.nils, .nils]⟩ ∧ T.ty 54 = some ⟨.struct [(0, 1, false), (1, 1, false), (2, 1, false), (3, 1, false)] [.i .i64, .s, .i .i64, .i .i64], 4, 40, [.int .i64 0, .str [], .int .i64 0, .int .i64 0]⟩ ∧ T.ty 55 = some ⟨.struct [(0, 1, false), (1, 1, false), (2, 1, false), (3, 1, false)] [.i .i64, .s, .i .i64, .i .i64], 4, 40, [.int .i64 0, .str [], .int .i64 0, .int .i64 0]⟩ ∧ T.ty 74 = some ⟨.struct [(0, 1, false), (1, 1, false), (2, 1, false)] [], 3, 48, [.str [], .int .i64 0, .nils]⟩ ∧ T.ty 75 = some ⟨.struct [(0, 1, false), (1, 1, false), (2, 1, false)] [], 3, 48, [.str [], .int .i64 0, .nils]⟩ ∧ T.ty 77 = some ⟨.ptr 79, 1, 8, [.nilp]⟩ ∧ T.ty 78 = some ⟨.struct [(0, 1, false), (1, 1, false), (2, 1, false)] [], 3, 72, [.nils, .nils, .nils]⟩ ∧ T.ty 79 = some ⟨.struct [(0, 1, false), (1, 1, false), (2, 1, false)] [], 3, 72, [.nils, .nils, .nils]⟩ ∧ T.ty 84 = some ⟨.struct [(0, 1, false), (1, 1, false)] [], 2, 40, [.str [], .nils]⟩ ∧ T.ty 85 = some ⟨.struct [(0, 1, false), (1, 1, false)] [], 2, 40, [.str [], .nils]⟩ ∧ T.ty 89 = some ⟨.ptr 49, 1, 8, [.nilp]⟩ ∧ T.ty 96 = some ⟨.slice 4, 1, 24, [.nils]⟩ ∧ T.ty 97 = some ⟨.array 2 3, 2, 16, [.int .i64 0, .int .i64 0]⟩ ∧ T.ty 98 = some ⟨.ptr 75, 1, 8, [.nilp]⟩ ∧ T.ty 102 = some ⟨.ptr 131, 1, 8, [.nilp]⟩ ∧ T.ty 107 = some ⟨.slice 27, 1, 24, [.nils]⟩ ∧ T.ty 116 = some ⟨.struct [] [], 0, 0, []⟩ ∧ T.ty 117 = some ⟨.struct [] [], 0, 0, []⟩ ∧ T.ty 118 = some ⟨.struct [] [], 0, 0, []⟩ ∧ T.ty 119 = some ⟨.int .u32, 1, 4, [.int .u32 0]⟩ ∧ T.ty 120 = some ⟨.struct [(0, 0, true), (0, 1, false)] [], 1, 4, [.int .u32 0]⟩ ∧ T.ty 121 = some ⟨.struct [(0, 0, true), (0, 1, false)] [], 1, 4, [.int .u32 0]⟩ ∧ T.ty 124 = some ⟨.struct [(0, 0, true), (0, 2, true)] [], 2, 8, [.int .i32 0, .int .u32 0]⟩ ∧ T.ty 125 = some ⟨.struct [(0, 0, true), (0, 2, true)] [], 2, 8, [.int .i32 0, .int .u32 0]⟩ ∧ T.ty 126 = some ⟨.struct [(0, 0, true), (0, 1, true), (1, 2, true)] [], 3, 12, [.int .u32 0, .int .i32 0, .int .u32 0]⟩ ∧ T.ty 127 = some ⟨.struct [(0, 0, true), (0, 1, true), (1, 2, true)] [], 3, 12, [.int .u32 0, .int .i32 0, .int .u32 0]⟩ ∧ T.ty 128 = some ⟨.other, 1, 16, [.ifc true]⟩ ∧ T.ty 129 = some ⟨.other, 1, 16, [.ifc true]⟩ ∧ T.ty 130 = some ⟨.struct [(0, 3, true), (3, 1, false), (4, 1, false)] [], 5, 56, [.int .u32 0, .int .i32 0, .int .u32 0, .ifc true, .nils]⟩ ∧ T.ty 131 = some ⟨.struct [(0, 3, true), (3, 1, false), (4, 1, false)] [], 5, 56, [.int .u32 0, .int .i32 0, .int .u32 0, .ifc true, .nils]⟩ ∧ T.ty 140 = some ⟨.ptr 143, 1, 8, [.nilp]⟩ ∧ T.ty 141 = some ⟨.slice 5, 1, 24, [.nils]⟩ ∧ T.ty 142 = some ⟨.struct [(0, 1, false), (1, 1, false)] [], 2, 32, [.nilp, .nils]⟩ ∧ T.ty 143 = some ⟨.struct [(0, 1, false), (1, 1, false)] [], 2, 32, [.nilp, .nils]⟩ ∧ T.ty 144 = some ⟨.other, 1, 16, [.ifc true]⟩ ∧ T.ty 145 = some ⟨.other, 1, 16, [.ifc true]⟩ ∧ T.ty 148 = some ⟨.ptr 127, 1, 8, [.nilp]⟩ ∧ T.ty 150 = some ⟨.int .u64, 1, 8, [.int .u64 0]⟩ ∧ T.ty 153 = some ⟨.ptr 5, 1, 8, [.nilp]⟩ ∧ T.ty 154 = some ⟨.ptr 121, 1, 8, [.nilp]⟩ ∧ T.ty 156 = some ⟨.ptr 119, 1, 8, [.nilp]⟩ ∧ T.ty 158 = some ⟨.ptr 180, 1, 8, [.nilp]⟩ ∧ T.ty 160 = some ⟨.ptr 186, 1, 8, [.nilp]⟩ ∧ T.ty 162 = some ⟨.array 256 5, 256, 256, []⟩ ∧ T.ty 163 = some ⟨.array 256 5, 256, 256, []⟩ ∧ T.ty 164 = some ⟨.ptr 163, 1, 8, [.nilp]⟩ ∧ T.ty 165 = some ⟨.array 256 141, 256, 6144, []⟩ ∧ T.ty 166 = some ⟨.struct [(0, 256, true), (256, 1, false)] [], 257, 6168, List.replicate 257 (.nils)⟩ ∧ T.ty 167 = some ⟨.struct [(0, 256, true), (256, 1, false)] [], 257, 6168, List.replicate 257 (.nils)⟩ ∧ T.ty 168 = some ⟨.ptr 167, 1, 8, [.nilp]⟩ ∧ T.ty 174 = some ⟨.ptr 125, 1, 8, [.nilp]⟩ ∧ T.ty 177 = some ⟨.ptr 197, 1, 8, [.nilp]⟩ ∧ T.ty 179 = some ⟨.struct [(0, 1, false), (1, 1, false)] [], 2, 24, [.nilp, .str []]⟩ ∧ T.ty 180 = some ⟨.struct [(0, 1, false), (1, 1, false)] [], 2, 24, [.nilp, .str []]⟩ ∧ T.ty 181 = some ⟨.ptr 184, 1, 8, [.nilp]⟩ ∧ T.ty 182 = some ⟨.slice 181, 1, 24, [.nils]⟩ ∧ T.ty 183 = some ⟨.struct [(0, 1, false), (1, 1, false), (2, 1, false), (3, 1, false), (4, 1, false)] [], 5, 72, [.str [], .int .i64 0, .str [], .nilp, .nils]⟩ ∧ T.ty 184 = some ⟨.struct [(0, 1, false), (1, 1, false), (2, 1, false), (3, 1, false), (4, 1, false)] [], 5, 72, [.str [], .int .i64 0, .str [], .nilp, .nils]⟩ ∧ T.ty 185 = some ⟨.struct [(0, 5, true), (5, 1, false), (6, 256, true)] [], 262, 336, []⟩ ∧ T.ty 186 = some ⟨.struct [(0, 5, true), (5, 1, false), (6, 256, true)] [], 262, 336, []⟩ ∧ T.ty 191 = some ⟨.ptr 21, 1, 8, [.nilp]⟩ ∧ T.ty 195 = some ⟨.array 256 3, 256, 2048, []⟩ ∧ T.ty 196 = some ⟨.struct [(0, 1, false), (1, 256, true), (257, 1, false)] [], 258, 2088, []⟩ ∧ T.ty 197 = some ⟨.struct [(0, 1, false), (1, 256, true), (257, 1, false)] [], 258, 2088, []⟩ ∧ T.ty 203 = some ⟨.array 0 16, 0, 0, []⟩ ∧ T.ty 219 = some ⟨.slice 5, 1, 24, [.nils]⟩ ∧ T.ty 220 = some ⟨.ptr 219, 1, 8, [.nilp]⟩ ∧ T.ty 221 = some ⟨.other, 1, 16, [.ifc true]⟩ ∧ T.ty 222 = some ⟨.other, 1, 16, [.ifc true]⟩ ∧ T.ty 223 = some ⟨.other, 1, 16, [.ifc true]⟩ ∧ T.ty 224 = some ⟨.other, 1, 16, [.ifc true]⟩ ∧ T.ty 229 = some ⟨.struct [(0, 1, false)] [], 1, 16, [.ifc true]⟩ ∧ T.ty 230 = some ⟨.struct [(0, 1, false)] [], 1, 16, [.ifc true]⟩ := ⟨rfl, rfl, rfl, rfl, rfl, rfl, rfl, rfl, rfl, rfl, rfl, rfl, rfl, rfl, rfl, rfl, rfl, rfl, rfl, rfl, rfl, rfl, rfl, rfl, rfl, rfl, rfl, rfl, rfl, rfl, rfl, rfl, rfl, rfl, rfl, rfl, rfl, rfl, rfl, rfl, rfl, rfl, rfl, rfl, rfl, rfl, rfl, rfl, rfl, rfl, rfl, rfl, rfl, rfl, rfl, rfl, rfl, rfl, rfl, rfl, rfl, rfl, rfl, rfl, rfl, rfl, rfl, rfl, rfl, rfl, rfl, rfl, rfl, rfl, rfl, rfl, rfl, rfl, rfl, rfl, rfl, rfl, rfl, rfl, rfl, rfl, rfl, rfl, rfl, rfl, rfl, rfl, rfl⟩
theorem ER : Tryz.prog.follows .mixedOrders = true := by kernel_rfl
end Go.Proofs.YtmbjnkgpcbpclaaGreat
