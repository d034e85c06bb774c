/- The types' table of the seat (printed by wip/gen/ty.py). -/
import Derived.Test.YtcjipciiljjfhaaGreatDoorProg
import Derived.Test.YtcjipciiljjfhaaGreatDoorV3
set_option linter.all false
namespace Go.Proofs.YtcjipciiljjfhaaGreatDoor
open Go Go.Vc
def tab : List (Nat × TI) := [
  (2, ⟨.int .i64, 1, 8, [.int .i64 0]⟩),
  (3, ⟨.int .i64, 1, 8, [.int .i64 0]⟩),
  (4, ⟨.bool, 1, 1, [.bool false]⟩),
  (5, ⟨.int .u8, 1, 1, [.int .u8 0]⟩),
  (9, ⟨.str, 1, 16, [.str []]⟩),
  (12, ⟨.int .u64, 1, 8, [.int .u64 0]⟩),
  (15, ⟨.ptr 166, 1, 8, [.nilp]⟩),
  (16, ⟨.ptr 169, 1, 8, [.nilp]⟩),
  (17, ⟨.ptr 178, 1, 8, [.nilp]⟩),
  (21, ⟨.int .i32, 1, 4, [.int .i32 0]⟩),
  (22, ⟨.slice 50, 1, 24, [.nils]⟩),
  (23, ⟨.struct [(0, 1, false)] [], 1, 24, [.nils]⟩),
  (24, ⟨.struct [(0, 1, false)] [], 1, 24, [.nils]⟩),
  (25, ⟨.slice 61, 1, 24, [.nils]⟩),
  (26, ⟨.struct [(0, 1, false)] [], 1, 24, [.nils]⟩),
  (27, ⟨.struct [(0, 1, false)] [], 1, 24, [.nils]⟩),
  (28, ⟨.slice 63, 1, 24, [.nils]⟩),
  (30, ⟨.slice 3, 1, 24, [.nils]⟩),
  (31, ⟨.struct [(0, 1, false), (1, 1, false)] [.i .i64, .i .i64], 2, 16, [.int .i64 0, .int .i64 0]⟩),
  (32, ⟨.struct [(0, 1, false), (1, 1, false)] [.i .i64, .i .i64], 2, 16, [.int .i64 0, .int .i64 0]⟩),
  (36, ⟨.slice 4, 1, 24, [.nils]⟩),
  (46, ⟨.slice 5, 1, 24, [.nils]⟩),
  (47, ⟨.struct [(0, 1, false), (1, 1, false), (2, 1, false)] [], 3, 56, [.int .i64 0, .nils, .nils]⟩),
  (48, ⟨.struct [(0, 1, false), (1, 1, false), (2, 1, false)] [], 3, 56, [.int .i64 0, .nils, .nils]⟩),
  (49, ⟨.struct [(0, 1, false), (1, 3, true)] [], 4, 64, [.int .i64 0, .int .i64 0, .nils, .nils]⟩),
  (50, ⟨.struct [(0, 1, false), (1, 3, true)] [], 4, 64, [.int .i64 0, .int .i64 0, .nils, .nils]⟩),
  (60, ⟨.struct [(0, 1, false), (1, 1, false)] [.s, .i .i64], 2, 24, [.str [], .int .i64 0]⟩),
  (61, ⟨.struct [(0, 1, false), (1, 1, false)] [.s, .i .i64], 2, 24, [.str [], .int .i64 0]⟩),
  (62, ⟨.struct [(0, 1, false), (1, 1, false)] [.i .i64, .i .i64], 2, 16, [.int .i64 0, .int .i64 0]⟩),
  (63, ⟨.struct [(0, 1, false), (1, 1, false)] [.i .i64, .i .i64], 2, 16, [.int .i64 0, .int .i64 0]⟩),
  (89, ⟨.ptr 24, 1, 8, [.nilp]⟩),
  (100, ⟨.slice 9, 1, 24, [.nils]⟩),
  (103, ⟨.int .u64, 1, 8, [.int .u64 0]⟩),
  (108, ⟨.array 2 3, 2, 16, [.int .i64 0, .int .i64 0]⟩),
  (109, ⟨.array 2 3, 2, 16, [.int .i64 0, .int .i64 0]⟩),
  (117, ⟨.int .i64, 1, 8, [.int .i64 0]⟩),
  (125, ⟨.int .u32, 1, 4, [.int .u32 0]⟩),
  (127, ⟨.int .u64, 1, 8, [.int .u64 0]⟩),
  (135, ⟨.array 256 4, 256, 256, []⟩),
  (136, ⟨.array 256 4, 256, 256, []⟩),
  (140, ⟨.ptr 136, 1, 8, [.nilp]⟩),
  (143, ⟨.int .u64, 1, 8, [.int .u64 0]⟩),
  (147, ⟨.ptr 3, 1, 8, [.nilp]⟩),
  (152, ⟨.ptr 143, 1, 8, [.nilp]⟩),
  (156, ⟨.array 256 5, 256, 256, []⟩),
  (157, ⟨.struct [(0, 1, false), (1, 1, false)] [.i .u8, .i .u8], 2, 2, [.int .u8 0, .int .u8 0]⟩),
  (158, ⟨.struct [(0, 1, false), (1, 1, false)] [.i .u8, .i .u8], 2, 2, [.int .u8 0, .int .u8 0]⟩),
  (159, ⟨.array 16 158, 32, 32, List.replicate 32 (.int .u8 0)⟩),
  (167, ⟨.array 0 16, 0, 0, []⟩),
  (174, ⟨.ptr 5, 1, 8, [.nilp]⟩)]
theorem tab_ok : tab.all (fun p => tyB Tryz.prog p.1 p.2) = true := by kernel_rfl
def T : Ctx Tryz.prog := Ctx.ofTab tab tab_ok
theorem ty2 : T.ty 2 = some ⟨.int .i64, 1, 8, [.int .i64 0]⟩ := rfl
theorem ty3 : T.ty 3 = some ⟨.int .i64, 1, 8, [.int .i64 0]⟩ := rfl
theorem ty4 : T.ty 4 = some ⟨.bool, 1, 1, [.bool false]⟩ := rfl
theorem ty5 : T.ty 5 = some ⟨.int .u8, 1, 1, [.int .u8 0]⟩ := rfl
theorem ty9 : T.ty 9 = some ⟨.str, 1, 16, [.str []]⟩ := rfl
theorem ty12 : T.ty 12 = some ⟨.int .u64, 1, 8, [.int .u64 0]⟩ := rfl
theorem ty15 : T.ty 15 = some ⟨.ptr 166, 1, 8, [.nilp]⟩ := rfl
theorem ty16 : T.ty 16 = some ⟨.ptr 169, 1, 8, [.nilp]⟩ := rfl
theorem ty17 : T.ty 17 = some ⟨.ptr 178, 1, 8, [.nilp]⟩ := rfl
theorem ty21 : T.ty 21 = some ⟨.int .i32, 1, 4, [.int .i32 0]⟩ := rfl
theorem ty22 : T.ty 22 = some ⟨.slice 50, 1, 24, [.nils]⟩ := rfl
theorem ty23 : T.ty 23 = some ⟨.struct [(0, 1, false)] [], 1, 24, [.nils]⟩ := rfl
theorem ty24 : T.ty 24 = some ⟨.struct [(0, 1, false)] [], 1, 24, [.nils]⟩ := rfl
theorem ty25 : T.ty 25 = some ⟨.slice 61, 1, 24, [.nils]⟩ := rfl
theorem ty26 : T.ty 26 = some ⟨.struct [(0, 1, false)] [], 1, 24, [.nils]⟩ := rfl
theorem ty27 : T.ty 27 = some ⟨.struct [(0, 1, false)] [], 1, 24, [.nils]⟩ := rfl
theorem ty28 : T.ty 28 = some ⟨.slice 63, 1, 24, [.nils]⟩ := rfl
theorem ty30 : T.ty 30 = some ⟨.slice 3, 1, 24, [.nils]⟩ := rfl
theorem ty31 : T.ty 31 = some ⟨.struct [(0, 1, false), (1, 1, false)] [.i .i64, .i .i64], 2, 16, [.int .i64 0, .int .i64 0]⟩ := rfl
theorem ty32 : T.ty 32 = some ⟨.struct [(0, 1, false), (1, 1, false)] [.i .i64, .i .i64], 2, 16, [.int .i64 0, .int .i64 0]⟩ := rfl
theorem ty36 : T.ty 36 = some ⟨.slice 4, 1, 24, [.nils]⟩ := rfl
theorem ty46 : T.ty 46 = some ⟨.slice 5, 1, 24, [.nils]⟩ := rfl
theorem ty47 : T.ty 47 = some ⟨.struct [(0, 1, false), (1, 1, false), (2, 1, false)] [], 3, 56, [.int .i64 0, .nils, .nils]⟩ := rfl
theorem ty48 : T.ty 48 = some ⟨.struct [(0, 1, false), (1, 1, false), (2, 1, false)] [], 3, 56, [.int .i64 0, .nils, .nils]⟩ := rfl
theorem ty49 : T.ty 49 = some ⟨.struct [(0, 1, false), (1, 3, true)] [], 4, 64, [.int .i64 0, .int .i64 0, .nils, .nils]⟩ := rfl
theorem ty50 : T.ty 50 = some ⟨.struct [(0, 1, false), (1, 3, true)] [], 4, 64, [.int .i64 0, .int .i64 0, .nils, .nils]⟩ := rfl
theorem ty60 : T.ty 60 = some ⟨.struct [(0, 1, false), (1, 1, false)] [.s, .i .i64], 2, 24, [.str [], .int .i64 0]⟩ := rfl
theorem ty61 : T.ty 61 = some ⟨.struct [(0, 1, false), (1, 1, false)] [.s, .i .i64], 2, 24, [.str [], .int .i64 0]⟩ := rfl
theorem ty62 : T.ty 62 = some ⟨.struct [(0, 1, false), (1, 1, false)] [.i .i64, .i .i64], 2, 16, [.int .i64 0, .int .i64 0]⟩ := rfl
theorem ty63 : T.ty 63 = some ⟨.struct [(0, 1, false), (1, 1, false)] [.i .i64, .i .i64], 2, 16, [.int .i64 0, .int .i64 0]⟩ := rfl
theorem ty89 : T.ty 89 = some ⟨.ptr 24, 1, 8, [.nilp]⟩ := rfl
theorem ty100 : T.ty 100 = some ⟨.slice 9, 1, 24, [.nils]⟩ := rfl
theorem ty103 : T.ty 103 = some ⟨.int .u64, 1, 8, [.int .u64 0]⟩ := rfl
theorem ty108 : T.ty 108 = some ⟨.array 2 3, 2, 16, [.int .i64 0, .int .i64 0]⟩ := rfl
theorem ty109 : T.ty 109 = some ⟨.array 2 3, 2, 16, [.int .i64 0, .int .i64 0]⟩ := rfl
theorem ty117 : T.ty 117 = some ⟨.int .i64, 1, 8, [.int .i64 0]⟩ := rfl
theorem ty125 : T.ty 125 = some ⟨.int .u32, 1, 4, [.int .u32 0]⟩ := rfl
theorem ty127 : T.ty 127 = some ⟨.int .u64, 1, 8, [.int .u64 0]⟩ := rfl
theorem ty135 : T.ty 135 = some ⟨.array 256 4, 256, 256, []⟩ := rfl
theorem ty136 : T.ty 136 = some ⟨.array 256 4, 256, 256, []⟩ := rfl
theorem ty140 : T.ty 140 = some ⟨.ptr 136, 1, 8, [.nilp]⟩ := rfl
theorem ty143 : T.ty 143 = some ⟨.int .u64, 1, 8, [.int .u64 0]⟩ := rfl
theorem ty147 : T.ty 147 = some ⟨.ptr 3, 1, 8, [.nilp]⟩ := rfl
theorem ty152 : T.ty 152 = some ⟨.ptr 143, 1, 8, [.nilp]⟩ := rfl
theorem ty156 : T.ty 156 = some ⟨.array 256 5, 256, 256, []⟩ := rfl
theorem ty157 : T.ty 157 = some ⟨.struct [(0, 1, false), (1, 1, false)] [.i .u8, .i .u8], 2, 2, [.int .u8 0, .int .u8 0]⟩ := rfl
theorem ty158 : T.ty 158 = some ⟨.struct [(0, 1, false), (1, 1, false)] [.i .u8, .i .u8], 2, 2, [.int .u8 0, .int .u8 0]⟩ := rfl
theorem ty159 : T.ty 159 = some ⟨.array 16 158, 32, 32, List.replicate 32 (.int .u8 0)⟩ := rfl
theorem ty167 : T.ty 167 = some ⟨.array 0 16, 0, 0, []⟩ := rfl
theorem ty174 : T.ty 174 = some ⟨.ptr 5, 1, 8, [.nilp]⟩ := rfl
theorem tys : T.ty 2 = some ⟨.int .i64, 1, 8, [.int .i64 0]⟩ ∧ T.ty 3 = some ⟨.int .i64, 1, 8, [.int .i64 0]⟩ ∧ T.ty 4 = some ⟨.bool, 1, 1, [.bool false]⟩ ∧ T.ty 5 = some ⟨.int .u8, 1, 1, [.int .u8 0]⟩ ∧ T.ty 9 = some ⟨.str, 1, 16, [.str []]⟩ ∧ T.ty 12 = some ⟨.int .u64, 1, 8, [.int .u64 0]⟩ ∧ T.ty 15 = some ⟨.ptr 166, 1, 8, [.nilp]⟩ ∧ T.ty 16 = some ⟨.ptr 169, 1, 8, [.nilp]⟩ ∧ T.ty 17 = some ⟨.ptr 178, 1, 8, [.nilp]⟩ ∧ T.ty 21 = some ⟨.int .i32, 1, 4, [.int .i32 0]⟩ ∧ T.ty 22 = some ⟨.slice 50, 1, 24, [.nils]⟩ ∧ T.ty 23 = some ⟨.struct [(0, 1, false)] [], 1, 24, [.nils]⟩ ∧ T.ty 24 = some ⟨.struct [(0, 1, false)] [], 1, 24, [.nils]⟩ ∧ T.ty 25 = some ⟨.slice 61, 1, 24, [.nils]⟩ ∧ T.ty 26 = some ⟨.struct [(0, 1, false)] [], 1, 24, [.nils]⟩ ∧ T.ty 27 = some ⟨.struct [(0, 1, false)] [], 1, 24, [.nils]⟩ ∧ T.ty 28 = some ⟨.slice 63, 1, 24, [.nils]⟩ ∧ T.ty 30 = some ⟨.slice 3, 1, 24, [.nils]⟩ ∧ T.ty 31 = some ⟨.struct [(0, 1, false), (1, 1, false)] [.i .i64, .i .i64], 2, 16, [.int .i64 0, .int .i64 0]⟩ ∧ T.ty 32 = some ⟨.struct [(0, 1, false), (1, 1, false)] [.i .i64, .i .i64], 2, 16, [.int .i64 0, .int .i64 0]⟩ ∧ T.ty 36 = some ⟨.slice 4, 1, 24, [.nils]⟩ ∧ T.ty 46 = some ⟨.slice 5, 1, 24, [.nils]⟩ ∧ T.ty 47 = some ⟨.struct [(0, 1, false), (1, 1, false), (2, 1, false)] [], 3, 56, [.int .i64 0, .nils, .nils]⟩ ∧ T.ty 48 = some ⟨.struct [(0, 1, false), (1, 1, false), (2, 1, false)] [], 3, 56, [.int .i64 0, .nils, .nils]⟩ ∧ T.ty 49 = some ⟨.struct [(0, 1, false), (1, 3, true)] [], 4, 64, [.int .i64 0, .int .i64 0, .nils, .nils]⟩ ∧ T.ty 50 = some ⟨.struct [(0, 1, false), (1, 3, true)] [], 4, 64, [.int .i64 0, .int .i64 0, .nils, .nils]⟩ ∧ T.ty 60 = some ⟨.struct [(0, 1, false), (1, 1, false)] [.s, .i .i64], 2, 24, [.str [], .int .i64 0]⟩ ∧ T.ty 61 = some ⟨.struct [(0, 1, false), (1, 1, false)] [.s, .i .i64], 2, 24, [.str [], .int .i64 0]⟩ ∧ T.ty 62 = some ⟨.struct [(0, 1, false), (1, 1, false)] [.i .i64, .i .i64], 2, 16, [.int .i64 0, .int .i64 0]⟩ ∧ T.ty 63 = some ⟨.struct [(0, 1, false), (1, 1, false)] [.i .i64, .i .i64], 2, 16, [.int .i64 0, .int .i64 0]⟩ ∧ T.ty 89 = some ⟨.ptr 24, 1, 8, [.nilp]⟩ ∧ T.ty 100 = some ⟨.slice 9, 1, 24, [.nils]⟩ ∧ T.ty 103 = some ⟨.int .u64, 1, 8, [.int .u64 0]⟩ ∧ T.ty 108 = some ⟨.array 2 3, 2, 16, [.int .i64 0, .int .i64 0]⟩ ∧ T.ty 109 = some ⟨.array 2 3, 2, 16, [.int .i64 0, .int .i64 0]⟩ ∧ T.ty 117 = some ⟨.int .i64, 1, 8, [.int .i64 0]⟩ ∧ T.ty 125 = some ⟨.int .u32, 1, 4, [.int .u32 0]⟩ ∧ T.ty 127 = some ⟨.int .u64, 1, 8, [.int .u64 0]⟩ ∧ T.ty 135 = some ⟨.array 256 4, 256, 256, []⟩ ∧ T.ty 136 = some ⟨.array 256 4, 256, 256, []⟩ ∧ T.ty 140 = some ⟨.ptr 136, 1, 8, [.nilp]⟩ ∧ T.ty 143 = some ⟨.int .u64, 1, 8, [.int .u64 0]⟩ ∧ T.ty 147 = some ⟨.ptr 3, 1, 8, [.nilp]⟩ ∧ T.ty 152 = some ⟨.ptr 143, 1, 8, [.nilp]⟩ ∧ T.ty 156 = some ⟨.array 256 5, 256, 256, []⟩ ∧ T.ty 157 = some ⟨.struct [(0, 1, false), (1, 1, false)] [.i .u8, .i .u8], 2, 2, [.int .u8 0, .int .u8 0]⟩ ∧ T.ty 158 = some ⟨.struct [(0, 1, false), (1, 1, false)] [.i .u8, .i .u8], 2, 2, [.int .u8 0, .int .u8 0]⟩ ∧ T.ty 159 = some ⟨.array 16 158, 32, 32, List.replicate 32 (.int .u8 0)⟩ ∧ T.ty 167 = some ⟨.array 0 16, 0, 0, []⟩ ∧ T.ty 174 = some ⟨.ptr 5, 1, 8, [.nilp]⟩ := ⟨rfl, rfl, rfl, rfl, rfl, rfl, rfl, rfl, rfl, rfl, rfl, rfl, rfl, rfl, rfl, rfl, rfl, rfl, rfl, rfl, rfl, rfl, rfl, rfl, rfl, rfl, rfl, rfl, rfl, rfl, rfl, rfl, rfl, rfl, rfl, rfl, rfl, rfl, rfl, rfl, rfl, rfl, rfl, rfl, rfl, rfl, rfl, rfl, rfl, rfl⟩
theorem hmix : Tryz.prog.follows .mixedOrders = true := by kernel_rfl
end Go.Proofs.YtcjipciiljjfhaaGreatDoor
