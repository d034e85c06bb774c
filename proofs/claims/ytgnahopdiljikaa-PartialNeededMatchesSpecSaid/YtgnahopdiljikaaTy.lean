/- The types' table of the seat (printed by wip/gen/ty.py). -/
import Derived.Test.YtgnahopdiljikaaProg
import Derived.Test.YtgnahopdiljikaaV3
set_option linter.all false
namespace Go.Proofs.Ytgnahopdiljikaa
open Go Go.Vc
def tab : List (Nat × TI) := [
  (2, ⟨.int .i64, 1, 8, [.int .i64 0]⟩),
  (3, ⟨.int .i64, 1, 8, [.int .i64 0]⟩),
  (4, ⟨.bool, 1, 1, [.bool false]⟩),
  (5, ⟨.int .u8, 1, 1, [.int .u8 0]⟩),
  (9, ⟨.str, 1, 16, [.str []]⟩),
  (12, ⟨.int .u64, 1, 8, [.int .u64 0]⟩),
  (15, ⟨.ptr 127, 1, 8, [.nilp]⟩),
  (16, ⟨.ptr 130, 1, 8, [.nilp]⟩),
  (17, ⟨.ptr 139, 1, 8, [.nilp]⟩),
  (21, ⟨.int .i32, 1, 4, [.int .i32 0]⟩),
  (22, ⟨.slice 39, 1, 24, [.nils]⟩),
  (23, ⟨.struct [(0, 1, false)] [], 1, 24, [.nils]⟩),
  (24, ⟨.struct [(0, 1, false)] [], 1, 24, [.nils]⟩),
  (26, ⟨.slice 3, 1, 24, [.nils]⟩),
  (27, ⟨.struct [(0, 1, false), (1, 1, false)] [.i .i64, .i .i64], 2, 16, [.int .i64 0, .int .i64 0]⟩),
  (28, ⟨.struct [(0, 1, false), (1, 1, false)] [.i .i64, .i .i64], 2, 16, [.int .i64 0, .int .i64 0]⟩),
  (34, ⟨.slice 4, 1, 24, [.nils]⟩),
  (35, ⟨.slice 5, 1, 24, [.nils]⟩),
  (36, ⟨.struct [(0, 1, false), (1, 1, false), (2, 1, false)] [], 3, 56, [.int .i64 0, .nils, .nils]⟩),
  (37, ⟨.struct [(0, 1, false), (1, 1, false), (2, 1, false)] [], 3, 56, [.int .i64 0, .nils, .nils]⟩),
  (38, ⟨.struct [(0, 1, false), (1, 3, true)] [], 4, 64, [.int .i64 0, .int .i64 0, .nils, .nils]⟩),
  (39, ⟨.struct [(0, 1, false), (1, 3, true)] [], 4, 64, [.int .i64 0, .int .i64 0, .nils, .nils]⟩),
  (83, ⟨.int .u64, 1, 8, [.int .u64 0]⟩),
  (91, ⟨.ptr 24, 1, 8, [.nilp]⟩),
  (97, ⟨.int .i64, 1, 8, [.int .i64 0]⟩),
  (104, ⟨.int .u32, 1, 4, [.int .u32 0]⟩),
  (106, ⟨.int .u64, 1, 8, [.int .u64 0]⟩),
  (109, ⟨.array 2 3, 2, 16, [.int .i64 0, .int .i64 0]⟩),
  (110, ⟨.array 2 3, 2, 16, [.int .i64 0, .int .i64 0]⟩),
  (112, ⟨.int .u64, 1, 8, [.int .u64 0]⟩),
  (116, ⟨.ptr 3, 1, 8, [.nilp]⟩),
  (121, ⟨.ptr 112, 1, 8, [.nilp]⟩),
  (128, ⟨.array 0 16, 0, 0, []⟩),
  (135, ⟨.ptr 5, 1, 8, [.nilp]⟩)]
theorem tab_ok : tab.all (fun p => tyB Try.prog p.1 p.2) = true := by kernel_rfl
def T : Ctx Try.prog := Ctx.ofTab tab tab_ok
theorem ty2 : T.ty 2 = some ⟨.int .i64, 1, 8, [.int .i64 0]⟩ := rfl
theorem ty3 : T.ty 3 = some ⟨.int .i64, 1, 8, [.int .i64 0]⟩ := rfl
theorem ty4 : T.ty 4 = some ⟨.bool, 1, 1, [.bool false]⟩ := rfl
theorem ty5 : T.ty 5 = some ⟨.int .u8, 1, 1, [.int .u8 0]⟩ := rfl
theorem ty9 : T.ty 9 = some ⟨.str, 1, 16, [.str []]⟩ := rfl
theorem ty12 : T.ty 12 = some ⟨.int .u64, 1, 8, [.int .u64 0]⟩ := rfl
theorem ty15 : T.ty 15 = some ⟨.ptr 127, 1, 8, [.nilp]⟩ := rfl
theorem ty16 : T.ty 16 = some ⟨.ptr 130, 1, 8, [.nilp]⟩ := rfl
theorem ty17 : T.ty 17 = some ⟨.ptr 139, 1, 8, [.nilp]⟩ := rfl
theorem ty21 : T.ty 21 = some ⟨.int .i32, 1, 4, [.int .i32 0]⟩ := rfl
theorem ty22 : T.ty 22 = some ⟨.slice 39, 1, 24, [.nils]⟩ := rfl
theorem ty23 : T.ty 23 = some ⟨.struct [(0, 1, false)] [], 1, 24, [.nils]⟩ := rfl
theorem ty24 : T.ty 24 = some ⟨.struct [(0, 1, false)] [], 1, 24, [.nils]⟩ := rfl
theorem ty26 : T.ty 26 = some ⟨.slice 3, 1, 24, [.nils]⟩ := rfl
theorem ty27 : T.ty 27 = some ⟨.struct [(0, 1, false), (1, 1, false)] [.i .i64, .i .i64], 2, 16, [.int .i64 0, .int .i64 0]⟩ := rfl
theorem ty28 : T.ty 28 = some ⟨.struct [(0, 1, false), (1, 1, false)] [.i .i64, .i .i64], 2, 16, [.int .i64 0, .int .i64 0]⟩ := rfl
theorem ty34 : T.ty 34 = some ⟨.slice 4, 1, 24, [.nils]⟩ := rfl
theorem ty35 : T.ty 35 = some ⟨.slice 5, 1, 24, [.nils]⟩ := rfl
theorem ty36 : T.ty 36 = some ⟨.struct [(0, 1, false), (1, 1, false), (2, 1, false)] [], 3, 56, [.int .i64 0, .nils, .nils]⟩ := rfl
theorem ty37 : T.ty 37 = some ⟨.struct [(0, 1, false), (1, 1, false), (2, 1, false)] [], 3, 56, [.int .i64 0, .nils, .nils]⟩ := rfl
theorem ty38 : T.ty 38 = some ⟨.struct [(0, 1, false), (1, 3, true)] [], 4, 64, [.int .i64 0, .int .i64 0, .nils, .nils]⟩ := rfl
theorem ty39 : T.ty 39 = some ⟨.struct [(0, 1, false), (1, 3, true)] [], 4, 64, [.int .i64 0, .int .i64 0, .nils, .nils]⟩ := rfl
theorem ty83 : T.ty 83 = some ⟨.int .u64, 1, 8, [.int .u64 0]⟩ := rfl
theorem ty91 : T.ty 91 = some ⟨.ptr 24, 1, 8, [.nilp]⟩ := rfl
theorem ty97 : T.ty 97 = some ⟨.int .i64, 1, 8, [.int .i64 0]⟩ := rfl
theorem ty104 : T.ty 104 = some ⟨.int .u32, 1, 4, [.int .u32 0]⟩ := rfl
theorem ty106 : T.ty 106 = some ⟨.int .u64, 1, 8, [.int .u64 0]⟩ := rfl
theorem ty109 : T.ty 109 = some ⟨.array 2 3, 2, 16, [.int .i64 0, .int .i64 0]⟩ := rfl
theorem ty110 : T.ty 110 = some ⟨.array 2 3, 2, 16, [.int .i64 0, .int .i64 0]⟩ := rfl
theorem ty112 : T.ty 112 = some ⟨.int .u64, 1, 8, [.int .u64 0]⟩ := rfl
theorem ty116 : T.ty 116 = some ⟨.ptr 3, 1, 8, [.nilp]⟩ := rfl
theorem ty121 : T.ty 121 = some ⟨.ptr 112, 1, 8, [.nilp]⟩ := rfl
theorem ty128 : T.ty 128 = some ⟨.array 0 16, 0, 0, []⟩ := rfl
theorem ty135 : T.ty 135 = some ⟨.ptr 5, 1, 8, [.nilp]⟩ := rfl
theorem tys : T.ty 2 = some ⟨.int .i64, 1, 8, [.int .i64 0]⟩ ∧ T.ty 3 = some ⟨.int .i64, 1, 8, [.int .i64 0]⟩ ∧ T.ty 4 = some ⟨.bool, 1, 1, [.bool false]⟩ ∧ T.ty 5 = some ⟨.int .u8, 1, 1, [.int .u8 0]⟩ ∧ T.ty 9 = some ⟨.str, 1, 16, [.str []]⟩ ∧ T.ty 12 = some ⟨.int .u64, 1, 8, [.int .u64 0]⟩ ∧ T.ty 15 = some ⟨.ptr 127, 1, 8, [.nilp]⟩ ∧ T.ty 16 = some ⟨.ptr 130, 1, 8, [.nilp]⟩ ∧ T.ty 17 = some ⟨.ptr 139, 1, 8, [.nilp]⟩ ∧ T.ty 21 = some ⟨.int .i32, 1, 4, [.int .i32 0]⟩ ∧ T.ty 22 = some ⟨.slice 39, 1, 24, [.nils]⟩ ∧ T.ty 23 = some ⟨.struct [(0, 1, false)] [], 1, 24, [.nils]⟩ ∧ T.ty 24 = some ⟨.struct [(0, 1, false)] [], 1, 24, [.nils]⟩ ∧ T.ty 26 = some ⟨.slice 3, 1, 24, [.nils]⟩ ∧ T.ty 27 = some ⟨.struct [(0, 1, false), (1, 1, false)] [.i .i64, .i .i64], 2, 16, [.int .i64 0, .int .i64 0]⟩ ∧ T.ty 28 = some ⟨.struct [(0, 1, false), (1, 1, false)] [.i .i64, .i .i64], 2, 16, [.int .i64 0, .int .i64 0]⟩ ∧ T.ty 34 = some ⟨.slice 4, 1, 24, [.nils]⟩ ∧ T.ty 35 = some ⟨.slice 5, 1, 24, [.nils]⟩ ∧ T.ty 36 = some ⟨.struct [(0, 1, false), (1, 1, false), (2, 1, false)] [], 3, 56, [.int .i64 0, .nils, .nils]⟩ ∧ T.ty 37 = some ⟨.struct [(0, 1, false), (1, 1, false), (2, 1, false)] [], 3, 56, [.int .i64 0, .nils, .nils]⟩ ∧ T.ty 38 = some ⟨.struct [(0, 1, false), (1, 3, true)] [], 4, 64, [.int .i64 0, .int .i64 0, .nils, .nils]⟩ ∧ T.ty 39 = some ⟨.struct [(0, 1, false), (1, 3, true)] [], 4, 64, [.int .i64 0, .int .i64 0, .nils, .nils]⟩ ∧ T.ty 83 = some ⟨.int .u64, 1, 8, [.int .u64 0]⟩ ∧ T.ty 91 = some ⟨.ptr 24, 1, 8, [.nilp]⟩ ∧ T.ty 97 = some ⟨.int .i64, 1, 8, [.int .i64 0]⟩ ∧ T.ty 104 = some ⟨.int .u32, 1, 4, [.int .u32 0]⟩ ∧ T.ty 106 = some ⟨.int .u64, 1, 8, [.int .u64 0]⟩ ∧ T.ty 109 = some ⟨.array 2 3, 2, 16, [.int .i64 0, .int .i64 0]⟩ ∧ T.ty 110 = some ⟨.array 2 3, 2, 16, [.int .i64 0, .int .i64 0]⟩ ∧ T.ty 112 = some ⟨.int .u64, 1, 8, [.int .u64 0]⟩ ∧ T.ty 116 = some ⟨.ptr 3, 1, 8, [.nilp]⟩ ∧ T.ty 121 = some ⟨.ptr 112, 1, 8, [.nilp]⟩ ∧ T.ty 128 = some ⟨.array 0 16, 0, 0, []⟩ ∧ T.ty 135 = some ⟨.ptr 5, 1, 8, [.nilp]⟩ := ⟨rfl, rfl, rfl, rfl, rfl, rfl, rfl, rfl, rfl, rfl, rfl, rfl, rfl, rfl, rfl, rfl, rfl, rfl, rfl, rfl, rfl, rfl, rfl, rfl, rfl, rfl, rfl, rfl, rfl, rfl, rfl, rfl, rfl, rfl⟩
theorem hmix : Try.prog.follows .mixedOrders = true := by kernel_rfl
end Go.Proofs.Ytgnahopdiljikaa
