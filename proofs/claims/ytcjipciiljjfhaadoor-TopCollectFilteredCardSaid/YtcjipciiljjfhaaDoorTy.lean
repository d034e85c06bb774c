/- The types' table of the seat (printed by wip/gen/ty.py). -/
import Derived.Test.YtcjipciiljjfhaaDoorProg
import Derived.Test.YtcjipciiljjfhaaDoorV3
set_option linter.all false
namespace Go.Proofs.YtcjipciiljjfhaaDoor
open Go Go.Vc
def tab : List (Nat × TI) := [
  (2, ⟨.int .i64, 1, 8, [.int .i64 0]⟩),
  (3, ⟨.int .i64, 1, 8, [.int .i64 0]⟩),
  (4, ⟨.bool, 1, 1, [.bool false]⟩),
  (5, ⟨.int .u8, 1, 1, [.int .u8 0]⟩),
  (9, ⟨.str, 1, 16, [.str []]⟩),
  (12, ⟨.int .u64, 1, 8, [.int .u64 0]⟩),
  (15, ⟨.ptr 128, 1, 8, [.nilp]⟩),
  (16, ⟨.ptr 131, 1, 8, [.nilp]⟩),
  (17, ⟨.ptr 140, 1, 8, [.nilp]⟩),
  (21, ⟨.int .i32, 1, 4, [.int .i32 0]⟩),
  (22, ⟨.slice 58, 1, 24, [.nils]⟩),
  (23, ⟨.struct [(0, 1, false)] [], 1, 24, [.nils]⟩),
  (24, ⟨.struct [(0, 1, false)] [], 1, 24, [.nils]⟩),
  (25, ⟨.slice 51, 1, 24, [.nils]⟩),
  (26, ⟨.struct [(0, 1, false)] [], 1, 24, [.nils]⟩),
  (27, ⟨.struct [(0, 1, false)] [], 1, 24, [.nils]⟩),
  (28, ⟨.slice 53, 1, 24, [.nils]⟩),
  (31, ⟨.slice 3, 1, 24, [.nils]⟩),
  (32, ⟨.struct [(0, 1, false), (1, 1, false)] [.i .i64, .i .i64], 2, 16, [.int .i64 0, .int .i64 0]⟩),
  (33, ⟨.struct [(0, 1, false), (1, 1, false)] [.i .i64, .i .i64], 2, 16, [.int .i64 0, .int .i64 0]⟩),
  (42, ⟨.slice 5, 1, 24, [.nils]⟩),
  (43, ⟨.struct [(0, 1, false), (1, 1, false), (2, 1, false)] [], 3, 56, [.int .i64 0, .nils, .nils]⟩),
  (44, ⟨.struct [(0, 1, false), (1, 1, false), (2, 1, false)] [], 3, 56, [.int .i64 0, .nils, .nils]⟩),
  (50, ⟨.struct [(0, 1, false), (1, 1, false)] [.s, .i .i64], 2, 24, [.str [], .int .i64 0]⟩),
  (51, ⟨.struct [(0, 1, false), (1, 1, false)] [.s, .i .i64], 2, 24, [.str [], .int .i64 0]⟩),
  (52, ⟨.struct [(0, 1, false), (1, 1, false)] [.i .i64, .i .i64], 2, 16, [.int .i64 0, .int .i64 0]⟩),
  (53, ⟨.struct [(0, 1, false), (1, 1, false)] [.i .i64, .i .i64], 2, 16, [.int .i64 0, .int .i64 0]⟩),
  (57, ⟨.struct [(0, 1, false), (1, 3, true)] [], 4, 64, [.int .i64 0, .int .i64 0, .nils, .nils]⟩),
  (58, ⟨.struct [(0, 1, false), (1, 3, true)] [], 4, 64, [.int .i64 0, .int .i64 0, .nils, .nils]⟩),
  (63, ⟨.ptr 24, 1, 8, [.nilp]⟩),
  (89, ⟨.array 2 3, 2, 16, [.int .i64 0, .int .i64 0]⟩),
  (90, ⟨.array 2 3, 2, 16, [.int .i64 0, .int .i64 0]⟩),
  (94, ⟨.int .u64, 1, 8, [.int .u64 0]⟩),
  (105, ⟨.array 256 4, 256, 256, []⟩),
  (106, ⟨.array 256 4, 256, 256, []⟩),
  (110, ⟨.ptr 106, 1, 8, [.nilp]⟩),
  (116, ⟨.array 256 5, 256, 256, []⟩),
  (117, ⟨.struct [(0, 1, false), (1, 1, false)] [.i .u8, .i .u8], 2, 2, [.int .u8 0, .int .u8 0]⟩),
  (118, ⟨.struct [(0, 1, false), (1, 1, false)] [.i .u8, .i .u8], 2, 2, [.int .u8 0, .int .u8 0]⟩),
  (119, ⟨.array 16 118, 32, 32, List.replicate 32 (.int .u8 0)⟩),
  (123, ⟨.int .u32, 1, 4, [.int .u32 0]⟩),
  (129, ⟨.array 0 16, 0, 0, []⟩),
  (136, ⟨.ptr 5, 1, 8, [.nilp]⟩)]
theorem tab_ok : tab.all (fun p => tyB Tryd.prog p.1 p.2) = true := by kernel_rfl
def T : Ctx Tryd.prog := Ctx.ofTab tab tab_ok
theorem ty2 : T.ty 2 = some ⟨.int .i64, 1, 8, [.int .i64 0]⟩ := rfl
theorem ty3 : T.ty 3 = some ⟨.int .i64, 1, 8, [.int .i64 0]⟩ := rfl
theorem ty4 : T.ty 4 = some ⟨.bool, 1, 1, [.bool false]⟩ := rfl
theorem ty5 : T.ty 5 = some ⟨.int .u8, 1, 1, [.int .u8 0]⟩ := rfl
theorem ty9 : T.ty 9 = some ⟨.str, 1, 16, [.str []]⟩ := rfl
theorem ty12 : T.ty 12 = some ⟨.int .u64, 1, 8, [.int .u64 0]⟩ := rfl
theorem ty15 : T.ty 15 = some ⟨.ptr 128, 1, 8, [.nilp]⟩ := rfl
theorem ty16 : T.ty 16 = some ⟨.ptr 131, 1, 8, [.nilp]⟩ := rfl
theorem ty17 : T.ty 17 = some ⟨.ptr 140, 1, 8, [.nilp]⟩ := rfl
theorem ty21 : T.ty 21 = some ⟨.int .i32, 1, 4, [.int .i32 0]⟩ := rfl
theorem ty22 : T.ty 22 = some ⟨.slice 58, 1, 24, [.nils]⟩ := rfl
theorem ty23 : T.ty 23 = some ⟨.struct [(0, 1, false)] [], 1, 24, [.nils]⟩ := rfl
theorem ty24 : T.ty 24 = some ⟨.struct [(0, 1, false)] [], 1, 24, [.nils]⟩ := rfl
theorem ty25 : T.ty 25 = some ⟨.slice 51, 1, 24, [.nils]⟩ := rfl
theorem ty26 : T.ty 26 = some ⟨.struct [(0, 1, false)] [], 1, 24, [.nils]⟩ := rfl
theorem ty27 : T.ty 27 = some ⟨.struct [(0, 1, false)] [], 1, 24, [.nils]⟩ := rfl
theorem ty28 : T.ty 28 = some ⟨.slice 53, 1, 24, [.nils]⟩ := rfl
theorem ty31 : T.ty 31 = some ⟨.slice 3, 1, 24, [.nils]⟩ := rfl
theorem ty32 : T.ty 32 = some ⟨.struct [(0, 1, false), (1, 1, false)] [.i .i64, .i .i64], 2, 16, [.int .i64 0, .int .i64 0]⟩ := rfl
theorem ty33 : T.ty 33 = some ⟨.struct [(0, 1, false), (1, 1, false)] [.i .i64, .i .i64], 2, 16, [.int .i64 0, .int .i64 0]⟩ := rfl
theorem ty42 : T.ty 42 = some ⟨.slice 5, 1, 24, [.nils]⟩ := rfl
theorem ty43 : T.ty 43 = some ⟨.struct [(0, 1, false), (1, 1, false), (2, 1, false)] [], 3, 56, [.int .i64 0, .nils, .nils]⟩ := rfl
theorem ty44 : T.ty 44 = some ⟨.struct [(0, 1, false), (1, 1, false), (2, 1, false)] [], 3, 56, [.int .i64 0, .nils, .nils]⟩ := rfl
theorem ty50 : T.ty 50 = some ⟨.struct [(0, 1, false), (1, 1, false)] [.s, .i .i64], 2, 24, [.str [], .int .i64 0]⟩ := rfl
theorem ty51 : T.ty 51 = some ⟨.struct [(0, 1, false), (1, 1, false)] [.s, .i .i64], 2, 24, [.str [], .int .i64 0]⟩ := rfl
theorem ty52 : T.ty 52 = some ⟨.struct [(0, 1, false), (1, 1, false)] [.i .i64, .i .i64], 2, 16, [.int .i64 0, .int .i64 0]⟩ := rfl
theorem ty53 : T.ty 53 = some ⟨.struct [(0, 1, false), (1, 1, false)] [.i .i64, .i .i64], 2, 16, [.int .i64 0, .int .i64 0]⟩ := rfl
theorem ty57 : T.ty 57 = some ⟨.struct [(0, 1, false), (1, 3, true)] [], 4, 64, [.int .i64 0, .int .i64 0, .nils, .nils]⟩ := rfl
theorem ty58 : T.ty 58 = some ⟨.struct [(0, 1, false), (1, 3, true)] [], 4, 64, [.int .i64 0, .int .i64 0, .nils, .nils]⟩ := rfl
theorem ty63 : T.ty 63 = some ⟨.ptr 24, 1, 8, [.nilp]⟩ := rfl
theorem ty89 : T.ty 89 = some ⟨.array 2 3, 2, 16, [.int .i64 0, .int .i64 0]⟩ := rfl
theorem ty90 : T.ty 90 = some ⟨.array 2 3, 2, 16, [.int .i64 0, .int .i64 0]⟩ := rfl
theorem ty94 : T.ty 94 = some ⟨.int .u64, 1, 8, [.int .u64 0]⟩ := rfl
theorem ty105 : T.ty 105 = some ⟨.array 256 4, 256, 256, []⟩ := rfl
theorem ty106 : T.ty 106 = some ⟨.array 256 4, 256, 256, []⟩ := rfl
theorem ty110 : T.ty 110 = some ⟨.ptr 106, 1, 8, [.nilp]⟩ := rfl
theorem ty116 : T.ty 116 = some ⟨.array 256 5, 256, 256, []⟩ := rfl
theorem ty117 : T.ty 117 = some ⟨.struct [(0, 1, false), (1, 1, false)] [.i .u8, .i .u8], 2, 2, [.int .u8 0, .int .u8 0]⟩ := rfl
theorem ty118 : T.ty 118 = some ⟨.struct [(0, 1, false), (1, 1, false)] [.i .u8, .i .u8], 2, 2, [.int .u8 0, .int .u8 0]⟩ := rfl
theorem ty119 : T.ty 119 = some ⟨.array 16 118, 32, 32, List.replicate 32 (.int .u8 0)⟩ := rfl
theorem ty123 : T.ty 123 = some ⟨.int .u32, 1, 4, [.int .u32 0]⟩ := rfl
theorem ty129 : T.ty 129 = some ⟨.array 0 16, 0, 0, []⟩ := rfl
theorem ty136 : T.ty 136 = some ⟨.ptr 5, 1, 8, [.nilp]⟩ := rfl
theorem tys : T.ty 2 = some ⟨.int .i64, 1, 8, [.int .i64 0]⟩ ∧ T.ty 3 = some ⟨.int .i64, 1, 8, [.int .i64 0]⟩ ∧ T.ty 4 = some ⟨.bool, 1, 1, [.bool false]⟩ ∧ T.ty 5 = some ⟨.int .u8, 1, 1, [.int .u8 0]⟩ ∧ T.ty 9 = some ⟨.str, 1, 16, [.str []]⟩ ∧ T.ty 12 = some ⟨.int .u64, 1, 8, [.int .u64 0]⟩ ∧ T.ty 15 = some ⟨.ptr 128, 1, 8, [.nilp]⟩ ∧ T.ty 16 = some ⟨.ptr 131, 1, 8, [.nilp]⟩ ∧ T.ty 17 = some ⟨.ptr 140, 1, 8, [.nilp]⟩ ∧ T.ty 21 = some ⟨.int .i32, 1, 4, [.int .i32 0]⟩ ∧ T.ty 22 = some ⟨.slice 58, 1, 24, [.nils]⟩ ∧ T.ty 23 = some ⟨.struct [(0, 1, false)] [], 1, 24, [.nils]⟩ ∧ T.ty 24 = some ⟨.struct [(0, 1, false)] [], 1, 24, [.nils]⟩ ∧ T.ty 25 = some ⟨.slice 51, 1, 24, [.nils]⟩ ∧ T.ty 26 = some ⟨.struct [(0, 1, false)] [], 1, 24, [.nils]⟩ ∧ T.ty 27 = some ⟨.struct [(0, 1, false)] [], 1, 24, [.nils]⟩ ∧ T.ty 28 = some ⟨.slice 53, 1, 24, [.nils]⟩ ∧ T.ty 31 = some ⟨.slice 3, 1, 24, [.nils]⟩ ∧ T.ty 32 = some ⟨.struct [(0, 1, false), (1, 1, false)] [.i .i64, .i .i64], 2, 16, [.int .i64 0, .int .i64 0]⟩ ∧ T.ty 33 = some ⟨.struct [(0, 1, false), (1, 1, false)] [.i .i64, .i .i64], 2, 16, [.int .i64 0, .int .i64 0]⟩ ∧ T.ty 42 = some ⟨.slice 5, 1, 24, [.nils]⟩ ∧ T.ty 43 = some ⟨.struct [(0, 1, false), (1, 1, false), (2, 1, false)] [], 3, 56, [.int .i64 0, .nils, .nils]⟩ ∧ T.ty 44 = some ⟨.struct [(0, 1, false), (1, 1, false), (2, 1, false)] [], 3, 56, [.int .i64 0, .nils, .nils]⟩ ∧ T.ty 50 = some ⟨.struct [(0, 1, false), (1, 1, false)] [.s, .i .i64], 2, 24, [.str [], .int .i64 0]⟩ ∧ T.ty 51 = some ⟨.struct [(0, 1, false), (1, 1, false)] [.s, .i .i64], 2, 24, [.str [], .int .i64 0]⟩ ∧ T.ty 52 = some ⟨.struct [(0, 1, false), (1, 1, false)] [.i .i64, .i .i64], 2, 16, [.int .i64 0, .int .i64 0]⟩ ∧ T.ty 53 = some ⟨.struct [(0, 1, false), (1, 1, false)] [.i .i64, .i .i64], 2, 16, [.int .i64 0, .int .i64 0]⟩ ∧ T.ty 57 = some ⟨.struct [(0, 1, false), (1, 3, true)] [], 4, 64, [.int .i64 0, .int .i64 0, .nils, .nils]⟩ ∧ T.ty 58 = some ⟨.struct [(0, 1, false), (1, 3, true)] [], 4, 64, [.int .i64 0, .int .i64 0, .nils, .nils]⟩ ∧ T.ty 63 = some ⟨.ptr 24, 1, 8, [.nilp]⟩ ∧ T.ty 89 = some ⟨.array 2 3, 2, 16, [.int .i64 0, .int .i64 0]⟩ ∧ T.ty 90 = some ⟨.array 2 3, 2, 16, [.int .i64 0, .int .i64 0]⟩ ∧ T.ty 94 = some ⟨.int .u64, 1, 8, [.int .u64 0]⟩ ∧ T.ty 105 = some ⟨.array 256 4, 256, 256, []⟩ ∧ T.ty 106 = some ⟨.array 256 4, 256, 256, []⟩ ∧ T.ty 110 = some ⟨.ptr 106, 1, 8, [.nilp]⟩ ∧ T.ty 116 = some ⟨.array 256 5, 256, 256, []⟩ ∧ T.ty 117 = some ⟨.struct [(0, 1, false), (1, 1, false)] [.i .u8, .i .u8], 2, 2, [.int .u8 0, .int .u8 0]⟩ ∧ T.ty 118 = some ⟨.struct [(0, 1, false), (1, 1, false)] [.i .u8, .i .u8], 2, 2, [.int .u8 0, .int .u8 0]⟩ ∧ T.ty 119 = some ⟨.array 16 118, 32, 32, List.replicate 32 (.int .u8 0)⟩ ∧ T.ty 123 = some ⟨.int .u32, 1, 4, [.int .u32 0]⟩ ∧ T.ty 129 = some ⟨.array 0 16, 0, 0, []⟩ ∧ T.ty 136 = some ⟨.ptr 5, 1, 8, [.nilp]⟩ := ⟨rfl, rfl, rfl, rfl, rfl, rfl, rfl, rfl, rfl, rfl, rfl, rfl, rfl, rfl, rfl, rfl, rfl, rfl, rfl, rfl, rfl, rfl, rfl, rfl, rfl, rfl, rfl, rfl, rfl, rfl, rfl, rfl, rfl, rfl, rfl, rfl, rfl, rfl, rfl, rfl, rfl, rfl, rfl⟩
theorem hmix : Tryd.prog.follows .mixedOrders = true := by kernel_rfl
end Go.Proofs.YtcjipciiljjfhaaDoor
