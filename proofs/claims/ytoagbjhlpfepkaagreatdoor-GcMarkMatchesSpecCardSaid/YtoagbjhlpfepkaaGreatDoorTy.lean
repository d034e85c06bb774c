/- The types' table of the seat (printed by wip/gen/ty.py). -/
import Derived.Test.YtoagbjhlpfepkaaGreatDoorProg
import Derived.Test.YtoagbjhlpfepkaaGreatDoorV3
set_option linter.all false
namespace Go.Proofs.YtoagbjhlpfepkaaGreatDoor
open Go Go.Vc
def tab : List (Nat × TI) := [
  (2, ⟨.int .i64, 1, 8, [.int .i64 0]⟩),
  (3, ⟨.int .i64, 1, 8, [.int .i64 0]⟩),
  (4, ⟨.bool, 1, 1, [.bool false]⟩),
  (5, ⟨.int .u8, 1, 1, [.int .u8 0]⟩),
  (9, ⟨.str, 1, 16, [.str []]⟩),
  (12, ⟨.int .u64, 1, 8, [.int .u64 0]⟩),
  (15, ⟨.ptr 160, 1, 8, [.nilp]⟩),
  (16, ⟨.ptr 163, 1, 8, [.nilp]⟩),
  (17, ⟨.ptr 172, 1, 8, [.nilp]⟩),
  (21, ⟨.int .i32, 1, 4, [.int .i32 0]⟩),
  (22, ⟨.slice 54, 1, 24, [.nils]⟩),
  (23, ⟨.struct [(0, 1, false)] [], 1, 24, [.nils]⟩),
  (24, ⟨.struct [(0, 1, false)] [], 1, 24, [.nils]⟩),
  (25, ⟨.slice 3, 1, 24, [.nils]⟩),
  (27, ⟨.struct [(0, 1, false), (1, 1, false)] [.i .i64, .i .i64], 2, 16, [.int .i64 0, .int .i64 0]⟩),
  (28, ⟨.struct [(0, 1, false), (1, 1, false)] [.i .i64, .i .i64], 2, 16, [.int .i64 0, .int .i64 0]⟩),
  (37, ⟨.slice 4, 1, 24, [.nils]⟩),
  (44, ⟨.slice 68, 1, 24, [.nils]⟩),
  (45, ⟨.struct [(0, 1, false)] [], 1, 24, [.nils]⟩),
  (46, ⟨.struct [(0, 1, false)] [], 1, 24, [.nils]⟩),
  (50, ⟨.slice 5, 1, 24, [.nils]⟩),
  (51, ⟨.struct [(0, 1, false), (1, 1, false), (2, 1, false)] [], 3, 56, [.int .i64 0, .nils, .nils]⟩),
  (52, ⟨.struct [(0, 1, false), (1, 1, false), (2, 1, false)] [], 3, 56, [.int .i64 0, .nils, .nils]⟩),
  (53, ⟨.struct [(0, 1, false), (1, 3, true)] [], 4, 64, [.int .i64 0, .int .i64 0, .nils, .nils]⟩),
  (54, ⟨.struct [(0, 1, false), (1, 3, true)] [], 4, 64, [.int .i64 0, .int .i64 0, .nils, .nils]⟩),
  (64, ⟨.slice 70, 1, 24, [.nils]⟩),
  (67, ⟨.struct [(0, 1, false), (1, 1, false)] [.s, .i .i64], 2, 24, [.str [], .int .i64 0]⟩),
  (68, ⟨.struct [(0, 1, false), (1, 1, false)] [.s, .i .i64], 2, 24, [.str [], .int .i64 0]⟩),
  (69, ⟨.struct [(0, 1, false), (1, 1, false)] [.i .i64, .i .i64], 2, 16, [.int .i64 0, .int .i64 0]⟩),
  (70, ⟨.struct [(0, 1, false), (1, 1, false)] [.i .i64, .i .i64], 2, 16, [.int .i64 0, .int .i64 0]⟩),
  (82, ⟨.ptr 24, 1, 8, [.nilp]⟩),
  (91, ⟨.int .u64, 1, 8, [.int .u64 0]⟩),
  (103, ⟨.array 2 3, 2, 16, [.int .i64 0, .int .i64 0]⟩),
  (104, ⟨.array 2 3, 2, 16, [.int .i64 0, .int .i64 0]⟩),
  (106, ⟨.int .i64, 1, 8, [.int .i64 0]⟩),
  (114, ⟨.int .u32, 1, 4, [.int .u32 0]⟩),
  (116, ⟨.int .u64, 1, 8, [.int .u64 0]⟩),
  (126, ⟨.int .u64, 1, 8, [.int .u64 0]⟩),
  (130, ⟨.ptr 3, 1, 8, [.nilp]⟩),
  (136, ⟨.array 256 4, 256, 256, []⟩),
  (137, ⟨.array 256 4, 256, 256, []⟩),
  (141, ⟨.ptr 137, 1, 8, [.nilp]⟩),
  (143, ⟨.ptr 126, 1, 8, [.nilp]⟩),
  (150, ⟨.array 256 5, 256, 256, []⟩),
  (151, ⟨.struct [(0, 1, false), (1, 1, false)] [.i .u8, .i .u8], 2, 2, [.int .u8 0, .int .u8 0]⟩),
  (152, ⟨.struct [(0, 1, false), (1, 1, false)] [.i .u8, .i .u8], 2, 2, [.int .u8 0, .int .u8 0]⟩),
  (153, ⟨.array 16 152, 32, 32, List.replicate 32 (.int .u8 0)⟩),
  (161, ⟨.array 0 16, 0, 0, []⟩),
  (168, ⟨.ptr 5, 1, 8, [.nilp]⟩)]
theorem tab_ok : tab.all (fun p => tyB Tryz.prog p.1 p.2) = true := by kernel_rfl
def T : Ctx Tryz.prog := Ctx.ofTab tab tab_ok
theorem ty2 : T.ty 2 = some ⟨.int .i64, 1, 8, [.int .i64 0]⟩ := rfl
theorem ty3 : T.ty 3 = some ⟨.int .i64, 1, 8, [.int .i64 0]⟩ := rfl
theorem ty4 : T.ty 4 = some ⟨.bool, 1, 1, [.bool false]⟩ := rfl
theorem ty5 : T.ty 5 = some ⟨.int .u8, 1, 1, [.int .u8 0]⟩ := rfl
theorem ty9 : T.ty 9 = some ⟨.str, 1, 16, [.str []]⟩ := rfl
theorem ty12 : T.ty 12 = some ⟨.int .u64, 1, 8, [.int .u64 0]⟩ := rfl
theorem ty15 : T.ty 15 = some ⟨.ptr 160, 1, 8, [.nilp]⟩ := rfl
theorem ty16 : T.ty 16 = some ⟨.ptr 163, 1, 8, [.nilp]⟩ := rfl
theorem ty17 : T.ty 17 = some ⟨.ptr 172, 1, 8, [.nilp]⟩ := rfl
theorem ty21 : T.ty 21 = some ⟨.int .i32, 1, 4, [.int .i32 0]⟩ := rfl
theorem ty22 : T.ty 22 = some ⟨.slice 54, 1, 24, [.nils]⟩ := rfl
theorem ty23 : T.ty 23 = some ⟨.struct [(0, 1, false)] [], 1, 24, [.nils]⟩ := rfl
theorem ty24 : T.ty 24 = some ⟨.struct [(0, 1, false)] [], 1, 24, [.nils]⟩ := rfl
theorem ty25 : T.ty 25 = some ⟨.slice 3, 1, 24, [.nils]⟩ := rfl
theorem ty27 : T.ty 27 = some ⟨.struct [(0, 1, false), (1, 1, false)] [.i .i64, .i .i64], 2, 16, [.int .i64 0, .int .i64 0]⟩ := rfl
theorem ty28 : T.ty 28 = some ⟨.struct [(0, 1, false), (1, 1, false)] [.i .i64, .i .i64], 2, 16, [.int .i64 0, .int .i64 0]⟩ := rfl
theorem ty37 : T.ty 37 = some ⟨.slice 4, 1, 24, [.nils]⟩ := rfl
theorem ty44 : T.ty 44 = some ⟨.slice 68, 1, 24, [.nils]⟩ := rfl
theorem ty45 : T.ty 45 = some ⟨.struct [(0, 1, false)] [], 1, 24, [.nils]⟩ := rfl
theorem ty46 : T.ty 46 = some ⟨.struct [(0, 1, false)] [], 1, 24, [.nils]⟩ := rfl
theorem ty50 : T.ty 50 = some ⟨.slice 5, 1, 24, [.nils]⟩ := rfl
theorem ty51 : T.ty 51 = some ⟨.struct [(0, 1, false), (1, 1, false), (2, 1, false)] [], 3, 56, [.int .i64 0, .nils, .nils]⟩ := rfl
theorem ty52 : T.ty 52 = some ⟨.struct [(0, 1, false), (1, 1, false), (2, 1, false)] [], 3, 56, [.int .i64 0, .nils, .nils]⟩ := rfl
theorem ty53 : T.ty 53 = some ⟨.struct [(0, 1, false), (1, 3, true)] [], 4, 64, [.int .i64 0, .int .i64 0, .nils, .nils]⟩ := rfl
theorem ty54 : T.ty 54 = some ⟨.struct [(0, 1, false), (1, 3, true)] [], 4, 64, [.int .i64 0, .int .i64 0, .nils, .nils]⟩ := rfl
theorem ty64 : T.ty 64 = some ⟨.slice 70, 1, 24, [.nils]⟩ := rfl
theorem ty67 : T.ty 67 = some ⟨.struct [(0, 1, false), (1, 1, false)] [.s, .i .i64], 2, 24, [.str [], .int .i64 0]⟩ := rfl
theorem ty68 : T.ty 68 = some ⟨.struct [(0, 1, false), (1, 1, false)] [.s, .i .i64], 2, 24, [.str [], .int .i64 0]⟩ := rfl
theorem ty69 : T.ty 69 = some ⟨.struct [(0, 1, false), (1, 1, false)] [.i .i64, .i .i64], 2, 16, [.int .i64 0, .int .i64 0]⟩ := rfl
theorem ty70 : T.ty 70 = some ⟨.struct [(0, 1, false), (1, 1, false)] [.i .i64, .i .i64], 2, 16, [.int .i64 0, .int .i64 0]⟩ := rfl
theorem ty82 : T.ty 82 = some ⟨.ptr 24, 1, 8, [.nilp]⟩ := rfl
theorem ty91 : T.ty 91 = some ⟨.int .u64, 1, 8, [.int .u64 0]⟩ := rfl
theorem ty103 : T.ty 103 = some ⟨.array 2 3, 2, 16, [.int .i64 0, .int .i64 0]⟩ := rfl
theorem ty104 : T.ty 104 = some ⟨.array 2 3, 2, 16, [.int .i64 0, .int .i64 0]⟩ := rfl
theorem ty106 : T.ty 106 = some ⟨.int .i64, 1, 8, [.int .i64 0]⟩ := rfl
theorem ty114 : T.ty 114 = some ⟨.int .u32, 1, 4, [.int .u32 0]⟩ := rfl
theorem ty116 : T.ty 116 = some ⟨.int .u64, 1, 8, [.int .u64 0]⟩ := rfl
theorem ty126 : T.ty 126 = some ⟨.int .u64, 1, 8, [.int .u64 0]⟩ := rfl
theorem ty130 : T.ty 130 = some ⟨.ptr 3, 1, 8, [.nilp]⟩ := rfl
theorem ty136 : T.ty 136 = some ⟨.array 256 4, 256, 256, []⟩ := rfl
theorem ty137 : T.ty 137 = some ⟨.array 256 4, 256, 256, []⟩ := rfl
theorem ty141 : T.ty 141 = some ⟨.ptr 137, 1, 8, [.nilp]⟩ := rfl
theorem ty143 : T.ty 143 = some ⟨.ptr 126, 1, 8, [.nilp]⟩ := rfl
theorem ty150 : T.ty 150 = some ⟨.array 256 5, 256, 256, []⟩ := rfl
theorem ty151 : T.ty 151 = some ⟨.struct [(0, 1, false), (1, 1, false)] [.i .u8, .i .u8], 2, 2, [.int .u8 0, .int .u8 0]⟩ := rfl
theorem ty152 : T.ty 152 = some ⟨.struct [(0, 1, false), (1, 1, false)] [.i .u8, .i .u8], 2, 2, [.int .u8 0, .int .u8 0]⟩ := rfl
theorem ty153 : T.ty 153 = some ⟨.array 16 152, 32, 32, List.replicate 32 (.int .u8 0)⟩ := rfl
theorem ty161 : T.ty 161 = some ⟨.array 0 16, 0, 0, []⟩ := rfl
theorem ty168 : T.ty 168 = some ⟨.ptr 5, 1, 8, [.nilp]⟩ := rfl
theorem tys : T.ty 2 = some ⟨.int .i64, 1, 8, [.int .i64 0]⟩ ∧ T.ty 3 = some ⟨.int .i64, 1, 8, [.int .i64 0]⟩ ∧ T.ty 4 = some ⟨.bool, 1, 1, [.bool false]⟩ ∧ T.ty 5 = some ⟨.int .u8, 1, 1, [.int .u8 0]⟩ ∧ T.ty 9 = some ⟨.str, 1, 16, [.str []]⟩ ∧ T.ty 12 = some ⟨.int .u64, 1, 8, [.int .u64 0]⟩ ∧ T.ty 15 = some ⟨.ptr 160, 1, 8, [.nilp]⟩ ∧ T.ty 16 = some ⟨.ptr 163, 1, 8, [.nilp]⟩ ∧ T.ty 17 = some ⟨.ptr 172, 1, 8, [.nilp]⟩ ∧ T.ty 21 = some ⟨.int .i32, 1, 4, [.int .i32 0]⟩ ∧ T.ty 22 = some ⟨.slice 54, 1, 24, [.nils]⟩ ∧ T.ty 23 = some ⟨.struct [(0, 1, false)] [], 1, 24, [.nils]⟩ ∧ T.ty 24 = some ⟨.struct [(0, 1, false)] [], 1, 24, [.nils]⟩ ∧ T.ty 25 = some ⟨.slice 3, 1, 24, [.nils]⟩ ∧ T.ty 27 = some ⟨.struct [(0, 1, false), (1, 1, false)] [.i .i64, .i .i64], 2, 16, [.int .i64 0, .int .i64 0]⟩ ∧ T.ty 28 = some ⟨.struct [(0, 1, false), (1, 1, false)] [.i .i64, .i .i64], 2, 16, [.int .i64 0, .int .i64 0]⟩ ∧ T.ty 37 = some ⟨.slice 4, 1, 24, [.nils]⟩ ∧ T.ty 44 = some ⟨.slice 68, 1, 24, [.nils]⟩ ∧ T.ty 45 = some ⟨.struct [(0, 1, false)] [], 1, 24, [.nils]⟩ ∧ T.ty 46 = some ⟨.struct [(0, 1, false)] [], 1, 24, [.nils]⟩ ∧ T.ty 50 = some ⟨.slice 5, 1, 24, [.nils]⟩ ∧ T.ty 51 = some ⟨.struct [(0, 1, false), (1, 1, false), (2, 1, false)] [], 3, 56, [.int .i64 0, .nils, .nils]⟩ ∧ T.ty 52 = some ⟨.struct [(0, 1, false), (1, 1, false), (2, 1, false)] [], 3, 56, [.int .i64 0, .nils, .nils]⟩ ∧ T.ty 53 = some ⟨.struct [(0, 1, false), (1, 3, true)] [], 4, 64, [.int .i64 0, .int .i64 0, .nils, .nils]⟩ ∧ T.ty 54 = some ⟨.struct [(0, 1, false), (1, 3, true)] [], 4, 64, [.int .i64 0, .int .i64 0, .nils, .nils]⟩ ∧ T.ty 64 = some ⟨.slice 70, 1, 24, [.nils]⟩ ∧ T.ty 67 = some ⟨.struct [(0, 1, false), (1, 1, false)] [.s, .i .i64], 2, 24, [.str [], .int .i64 0]⟩ ∧ T.ty 68 = some ⟨.struct [(0, 1, false), (1, 1, false)] [.s, .i .i64], 2, 24, [.str [], .int .i64 0]⟩ ∧ T.ty 69 = some ⟨.struct [(0, 1, false), (1, 1, false)] [.i .i64, .i .i64], 2, 16, [.int .i64 0, .int .i64 0]⟩ ∧ T.ty 70 = some ⟨.struct [(0, 1, false), (1, 1, false)] [.i .i64, .i .i64], 2, 16, [.int .i64 0, .int .i64 0]⟩ ∧ T.ty 82 = some ⟨.ptr 24, 1, 8, [.nilp]⟩ ∧ T.ty 91 = some ⟨.int .u64, 1, 8, [.int .u64 0]⟩ ∧ T.ty 103 = some ⟨.array 2 3, 2, 16, [.int .i64 0, .int .i64 0]⟩ ∧ T.ty 104 = some ⟨.array 2 3, 2, 16, [.int .i64 0, .int .i64 0]⟩ ∧ T.ty 106 = some ⟨.int .i64, 1, 8, [.int .i64 0]⟩ ∧ T.ty 114 = some ⟨.int .u32, 1, 4, [.int .u32 0]⟩ ∧ T.ty 116 = some ⟨.int .u64, 1, 8, [.int .u64 0]⟩ ∧ T.ty 126 = some ⟨.int .u64, 1, 8, [.int .u64 0]⟩ ∧ T.ty 130 = some ⟨.ptr 3, 1, 8, [.nilp]⟩ ∧ T.ty 136 = some ⟨.array 256 4, 256, 256, []⟩ ∧ T.ty 137 = some ⟨.array 256 4, 256, 256, []⟩ ∧ T.ty 141 = some ⟨.ptr 137, 1, 8, [.nilp]⟩ ∧ T.ty 143 = some ⟨.ptr 126, 1, 8, [.nilp]⟩ ∧ T.ty 150 = some ⟨.array 256 5, 256, 256, []⟩ ∧ T.ty 151 = some ⟨.struct [(0, 1, false), (1, 1, false)] [.i .u8, .i .u8], 2, 2, [.int .u8 0, .int .u8 0]⟩ ∧ T.ty 152 = some ⟨.struct [(0, 1, false), (1, 1, false)] [.i .u8, .i .u8], 2, 2, [.int .u8 0, .int .u8 0]⟩ ∧ T.ty 153 = some ⟨.array 16 152, 32, 32, List.replicate 32 (.int .u8 0)⟩ ∧ T.ty 161 = some ⟨.array 0 16, 0, 0, []⟩ ∧ T.ty 168 = some ⟨.ptr 5, 1, 8, [.nilp]⟩ := ⟨rfl, rfl, rfl, rfl, rfl, rfl, rfl, rfl, rfl, rfl, rfl, rfl, rfl, rfl, rfl, rfl, rfl, rfl, rfl, rfl, rfl, rfl, rfl, rfl, rfl, rfl, rfl, rfl, rfl, rfl, rfl, rfl, rfl, rfl, rfl, rfl, rfl, rfl, rfl, rfl, rfl, rfl, rfl, rfl, rfl, rfl, rfl, rfl, rfl⟩
theorem hmix : Tryz.prog.follows .mixedOrders = true := by kernel_rfl
end Go.Proofs.YtoagbjhlpfepkaaGreatDoor
