/- The types' table of the seat (printed by wip/gen/ty.py). -/
import Derived.Test.YtiijkbidkdmilaaProg
import Derived.Test.YtiijkbidkdmilaaV3
set_option linter.all false
namespace Go.Proofs.Ytiijkbidkdmilaa
open Go Go.Vc
def tab : List (Nat × TI) := [
  (2, ⟨.int .i64, 1, 8, [.int .i64 0]⟩),
  (3, ⟨.int .i64, 1, 8, [.int .i64 0]⟩),
  (4, ⟨.bool, 1, 1, [.bool false]⟩),
  (5, ⟨.int .u8, 1, 1, [.int .u8 0]⟩),
  (9, ⟨.str, 1, 16, [.str []]⟩),
  (12, ⟨.int .u64, 1, 8, [.int .u64 0]⟩),
  (15, ⟨.ptr 109, 1, 8, [.nilp]⟩),
  (16, ⟨.ptr 112, 1, 8, [.nilp]⟩),
  (17, ⟨.ptr 122, 1, 8, [.nilp]⟩),
  (21, ⟨.int .i32, 1, 4, [.int .i32 0]⟩),
  (22, ⟨.slice 65, 1, 24, [.nils]⟩),
  (23, ⟨.struct [(0, 1, false)] [], 1, 24, [.nils]⟩),
  (24, ⟨.struct [(0, 1, false)] [], 1, 24, [.nils]⟩),
  (25, ⟨.slice 4, 1, 24, [.nils]⟩),
  (28, ⟨.slice 5, 1, 24, [.nils]⟩),
  (29, ⟨.struct [(0, 1, false), (1, 1, false)] [.i .i64, .i .i64], 2, 16, [.int .i64 0, .int .i64 0]⟩),
  (30, ⟨.struct [(0, 1, false), (1, 1, false)] [.i .i64, .i .i64], 2, 16, [.int .i64 0, .int .i64 0]⟩),
  (33, ⟨.slice 56, 1, 24, [.nils]⟩),
  (46, ⟨.slice 3, 1, 24, [.nils]⟩),
  (47, ⟨.struct [(0, 1, false), (1, 1, false), (2, 1, false)] [], 3, 56, [.int .i64 0, .nils, .nils]⟩),
  (48, ⟨.struct [(0, 1, false), (1, 1, false), (2, 1, false)] [], 3, 56, [.int .i64 0, .nils, .nils]⟩),
  (52, ⟨.slice 28, 1, 24, [.nils]⟩),
  (55, ⟨.struct [(0, 1, false), (1, 1, false)] [.i .i64, .i .i64], 2, 16, [.int .i64 0, .int .i64 0]⟩),
  (56, ⟨.struct [(0, 1, false), (1, 1, false)] [.i .i64, .i .i64], 2, 16, [.int .i64 0, .int .i64 0]⟩),
  (57, ⟨.struct [(0, 1, false), (1, 1, false), (2, 1, false), (3, 1, false), (4, 1, false)] [], 5, 72, [.int .i64 0, .int .i64 0, .int .i64 0, .nils, .nils]⟩),
  (58, ⟨.struct [(0, 1, false), (1, 1, false), (2, 1, false), (3, 1, false), (4, 1, false)] [], 5, 72, [.int .i64 0, .int .i64 0, .int .i64 0, .nils, .nils]⟩),
  (61, ⟨.slice 88, 1, 24, [.nils]⟩),
  (64, ⟨.struct [(0, 1, false), (1, 3, true)] [], 4, 64, [.int .i64 0, .int .i64 0, .nils, .nils]⟩),
  (65, ⟨.struct [(0, 1, false), (1, 3, true)] [], 4, 64, [.int .i64 0, .int .i64 0, .nils, .nils]⟩),
  (71, ⟨.ptr 24, 1, 8, [.nilp]⟩),
  (79, ⟨.ptr 58, 1, 8, [.nilp]⟩),
  (80, ⟨.ptr 46, 1, 8, [.nilp]⟩),
  (87, ⟨.struct [(0, 1, false), (1, 1, false), (2, 1, false)] [.i .i64, .i .i64, .i .i64], 3, 24, [.int .i64 0, .int .i64 0, .int .i64 0]⟩),
  (88, ⟨.struct [(0, 1, false), (1, 1, false), (2, 1, false)] [.i .i64, .i .i64, .i .i64], 3, 24, [.int .i64 0, .int .i64 0, .int .i64 0]⟩),
  (94, ⟨.int .u64, 1, 8, [.int .u64 0]⟩),
  (96, ⟨.array 2 3, 2, 16, [.int .i64 0, .int .i64 0]⟩),
  (97, ⟨.array 2 3, 2, 16, [.int .i64 0, .int .i64 0]⟩),
  (110, ⟨.array 0 16, 0, 0, []⟩),
  (114, ⟨.int .u32, 1, 4, [.int .u32 0]⟩),
  (118, ⟨.ptr 5, 1, 8, [.nilp]⟩)]
theorem tab_ok : tab.all (fun p => tyB Try.prog p.1 p.2) = true := by kernel_rfl
def T : Ctx Try.prog := Ctx.ofTab tab tab_ok
theorem ty2 : T.ty 2 = some ⟨.int .i64, 1, 8, [.int .i64 0]⟩ := rfl
theorem ty3 : T.ty 3 = some ⟨.int .i64, 1, 8, [.int .i64 0]⟩ := rfl
theorem ty4 : T.ty 4 = some ⟨.bool, 1, 1, [.bool false]⟩ := rfl
theorem ty5 : T.ty 5 = some ⟨.int .u8, 1, 1, [.int .u8 0]⟩ := rfl
theorem ty9 : T.ty 9 = some ⟨.str, 1, 16, [.str []]⟩ := rfl
theorem ty12 : T.ty 12 = some ⟨.int .u64, 1, 8, [.int .u64 0]⟩ := rfl
theorem ty15 : T.ty 15 = some ⟨.ptr 109, 1, 8, [.nilp]⟩ := rfl
theorem ty16 : T.ty 16 = some ⟨.ptr 112, 1, 8, [.nilp]⟩ := rfl
theorem ty17 : T.ty 17 = some ⟨.ptr 122, 1, 8, [.nilp]⟩ := rfl
theorem ty21 : T.ty 21 = some ⟨.int .i32, 1, 4, [.int .i32 0]⟩ := rfl
theorem ty22 : T.ty 22 = some ⟨.slice 65, 1, 24, [.nils]⟩ := rfl
theorem ty23 : T.ty 23 = some ⟨.struct [(0, 1, false)] [], 1, 24, [.nils]⟩ := rfl
theorem ty24 : T.ty 24 = some ⟨.struct [(0, 1, false)] [], 1, 24, [.nils]⟩ := rfl
theorem ty25 : T.ty 25 = some ⟨.slice 4, 1, 24, [.nils]⟩ := rfl
theorem ty28 : T.ty 28 = some ⟨.slice 5, 1, 24, [.nils]⟩ := rfl
theorem ty29 : T.ty 29 = some ⟨.struct [(0, 1, false), (1, 1, false)] [.i .i64, .i .i64], 2, 16, [.int .i64 0, .int .i64 0]⟩ := rfl
theorem ty30 : T.ty 30 = some ⟨.struct [(0, 1, false), (1, 1, false)] [.i .i64, .i .i64], 2, 16, [.int .i64 0, .int .i64 0]⟩ := rfl
theorem ty33 : T.ty 33 = some ⟨.slice 56, 1, 24, [.nils]⟩ := rfl
theorem ty46 : T.ty 46 = some ⟨.slice 3, 1, 24, [.nils]⟩ := rfl
theorem ty47 : T.ty 47 = some ⟨.struct [(0, 1, false), (1, 1, false), (2, 1, false)] [], 3, 56, [.int .i64 0, .nils, .nils]⟩ := rfl
theorem ty48 : T.ty 48 = some ⟨.struct [(0, 1, false), (1, 1, false), (2, 1, false)] [], 3, 56, [.int .i64 0, .nils, .nils]⟩ := rfl
theorem ty52 : T.ty 52 = some ⟨.slice 28, 1, 24, [.nils]⟩ := rfl
theorem ty55 : T.ty 55 = some ⟨.struct [(0, 1, false), (1, 1, false)] [.i .i64, .i .i64], 2, 16, [.int .i64 0, .int .i64 0]⟩ := rfl
theorem ty56 : T.ty 56 = some ⟨.struct [(0, 1, false), (1, 1, false)] [.i .i64, .i .i64], 2, 16, [.int .i64 0, .int .i64 0]⟩ := rfl
theorem ty57 : T.ty 57 = some ⟨.struct [(0, 1, false), (1, 1, false), (2, 1, false), (3, 1, false), (4, 1, false)] [], 5, 72, [.int .i64 0, .int .i64 0, .int .i64 0, .nils, .nils]⟩ := rfl
theorem ty58 : T.ty 58 = some ⟨.struct [(0, 1, false), (1, 1, false), (2, 1, false), (3, 1, false), (4, 1, false)] [], 5, 72, [.int .i64 0, .int .i64 0, .int .i64 0, .nils, .nils]⟩ := rfl
theorem ty61 : T.ty 61 = some ⟨.slice 88, 1, 24, [.nils]⟩ := rfl
theorem ty64 : T.ty 64 = some ⟨.struct [(0, 1, false), (1, 3, true)] [], 4, 64, [.int .i64 0, .int .i64 0, .nils, .nils]⟩ := rfl
theorem ty65 : T.ty 65 = some ⟨.struct [(0, 1, false), (1, 3, true)] [], 4, 64, [.int .i64 0, .int .i64 0, .nils, .nils]⟩ := rfl
theorem ty71 : T.ty 71 = some ⟨.ptr 24, 1, 8, [.nilp]⟩ := rfl
theorem ty79 : T.ty 79 = some ⟨.ptr 58, 1, 8, [.nilp]⟩ := rfl
theorem ty80 : T.ty 80 = some ⟨.ptr 46, 1, 8, [.nilp]⟩ := rfl
theorem ty87 : T.ty 87 = some ⟨.struct [(0, 1, false), (1, 1, false), (2, 1, false)] [.i .i64, .i .i64, .i .i64], 3, 24, [.int .i64 0, .int .i64 0, .int .i64 0]⟩ := rfl
theorem ty88 : T.ty 88 = some ⟨.struct [(0, 1, false), (1, 1, false), (2, 1, false)] [.i .i64, .i .i64, .i .i64], 3, 24, [.int .i64 0, .int .i64 0, .int .i64 0]⟩ := rfl
theorem ty94 : T.ty 94 = some ⟨.int .u64, 1, 8, [.int .u64 0]⟩ := rfl
theorem ty96 : T.ty 96 = some ⟨.array 2 3, 2, 16, [.int .i64 0, .int .i64 0]⟩ := rfl
theorem ty97 : T.ty 97 = some ⟨.array 2 3, 2, 16, [.int .i64 0, .int .i64 0]⟩ := rfl
theorem ty110 : T.ty 110 = some ⟨.array 0 16, 0, 0, []⟩ := rfl
theorem ty114 : T.ty 114 = some ⟨.int .u32, 1, 4, [.int .u32 0]⟩ := rfl
theorem ty118 : T.ty 118 = some ⟨.ptr 5, 1, 8, [.nilp]⟩ := rfl
theorem tys : T.ty 2 = some ⟨.int .i64, 1, 8, [.int .i64 0]⟩ ∧ T.ty 3 = some ⟨.int .i64, 1, 8, [.int .i64 0]⟩ ∧ T.ty 4 = some ⟨.bool, 1, 1, [.bool false]⟩ ∧ T.ty 5 = some ⟨.int .u8, 1, 1, [.int .u8 0]⟩ ∧ T.ty 9 = some ⟨.str, 1, 16, [.str []]⟩ ∧ T.ty 12 = some ⟨.int .u64, 1, 8, [.int .u64 0]⟩ ∧ T.ty 15 = some ⟨.ptr 109, 1, 8, [.nilp]⟩ ∧ T.ty 16 = some ⟨.ptr 112, 1, 8, [.nilp]⟩ ∧ T.ty 17 = some ⟨.ptr 122, 1, 8, [.nilp]⟩ ∧ T.ty 21 = some ⟨.int .i32, 1, 4, [.int .i32 0]⟩ ∧ T.ty 22 = some ⟨.slice 65, 1, 24, [.nils]⟩ ∧ T.ty 23 = some ⟨.struct [(0, 1, false)] [], 1, 24, [.nils]⟩ ∧ T.ty 24 = some ⟨.struct [(0, 1, false)] [], 1, 24, [.nils]⟩ ∧ T.ty 25 = some ⟨.slice 4, 1, 24, [.nils]⟩ ∧ T.ty 28 = some ⟨.slice 5, 1, 24, [.nils]⟩ ∧ T.ty 29 = some ⟨.struct [(0, 1, false), (1, 1, false)] [.i .i64, .i .i64], 2, 16, [.int .i64 0, .int .i64 0]⟩ ∧ T.ty 30 = some ⟨.struct [(0, 1, false), (1, 1, false)] [.i .i64, .i .i64], 2, 16, [.int .i64 0, .int .i64 0]⟩ ∧ T.ty 33 = some ⟨.slice 56, 1, 24, [.nils]⟩ ∧ T.ty 46 = some ⟨.slice 3, 1, 24, [.nils]⟩ ∧ T.ty 47 = some ⟨.struct [(0, 1, false), (1, 1, false), (2, 1, false)] [], 3, 56, [.int .i64 0, .nils, .nils]⟩ ∧ T.ty 48 = some ⟨.struct [(0, 1, false), (1, 1, false), (2, 1, false)] [], 3, 56, [.int .i64 0, .nils, .nils]⟩ ∧ T.ty 52 = some ⟨.slice 28, 1, 24, [.nils]⟩ ∧ T.ty 55 = some ⟨.struct [(0, 1, false), (1, 1, false)] [.i .i64, .i .i64], 2, 16, [.int .i64 0, .int .i64 0]⟩ ∧ T.ty 56 = some ⟨.struct [(0, 1, false), (1, 1, false)] [.i .i64, .i .i64], 2, 16, [.int .i64 0, .int .i64 0]⟩ ∧ T.ty 57 = some ⟨.struct [(0, 1, false), (1, 1, false), (2, 1, false), (3, 1, false), (4, 1, false)] [], 5, 72, [.int .i64 0, .int .i64 0, .int .i64 0, .nils, .nils]⟩ ∧ T.ty 58 = some ⟨.struct [(0, 1, false), (1, 1, false), (2, 1, false), (3, 1, false), (4, 1, false)] [], 5, 72, [.int .i64 0, .int .i64 0, .int .i64 0, .nils, .nils]⟩ ∧ T.ty 61 = some ⟨.slice 88, 1, 24, [.nils]⟩ ∧ T.ty 64 = some ⟨.struct [(0, 1, false), (1, 3, true)] [], 4, 64, [.int .i64 0, .int .i64 0, .nils, .nils]⟩ ∧ T.ty 65 = some ⟨.struct [(0, 1, false), (1, 3, true)] [], 4, 64, [.int .i64 0, .int .i64 0, .nils, .nils]⟩ ∧ T.ty 71 = some ⟨.ptr 24, 1, 8, [.nilp]⟩ ∧ T.ty 79 = some ⟨.ptr 58, 1, 8, [.nilp]⟩ ∧ T.ty 80 = some ⟨.ptr 46, 1, 8, [.nilp]⟩ ∧ T.ty 87 = some ⟨.struct [(0, 1, false), (1, 1, false), (2, 1, false)] [.i .i64, .i .i64, .i .i64], 3, 24, [.int .i64 0, .int .i64 0, .int .i64 0]⟩ ∧ T.ty 88 = some ⟨.struct [(0, 1, false), (1, 1, false), (2, 1, false)] [.i .i64, .i .i64, .i .i64], 3, 24, [.int .i64 0, .int .i64 0, .int .i64 0]⟩ ∧ T.ty 94 = some ⟨.int .u64, 1, 8, [.int .u64 0]⟩ ∧ T.ty 96 = some ⟨.array 2 3, 2, 16, [.int .i64 0, .int .i64 0]⟩ ∧ T.ty 97 = some ⟨.array 2 3, 2, 16, [.int .i64 0, .int .i64 0]⟩ ∧ T.ty 110 = some ⟨.array 0 16, 0, 0, []⟩ ∧ T.ty 114 = some ⟨.int .u32, 1, 4, [.int .u32 0]⟩ ∧ T.ty 118 = some ⟨.ptr 5, 1, 8, [.nilp]⟩ := ⟨rfl, rfl, rfl, rfl, rfl, rfl, rfl, rfl, rfl, rfl, rfl, rfl, rfl, rfl, rfl, rfl, rfl, rfl, rfl, rfl, rfl, rfl, rfl, rfl, rfl, rfl, rfl, rfl, rfl, rfl, rfl, rfl, rfl, rfl, rfl, rfl, rfl, rfl, rfl, rfl⟩
theorem hmix : Try.prog.follows .mixedOrders = true := by kernel_rfl
end Go.Proofs.Ytiijkbidkdmilaa
