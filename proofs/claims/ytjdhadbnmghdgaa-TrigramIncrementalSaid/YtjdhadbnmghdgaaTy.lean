/- The types' table of the seat (printed by wip/gen/ty.py). -/
import Derived.Test.YtjdhadbnmghdgaaProg
import Derived.Test.YtjdhadbnmghdgaaV3
set_option linter.all false
namespace Go.Proofs.Ytjdhadbnmghdgaa
open Go Go.Vc
def tab : List (Nat × TI) := [
  (2, ⟨.int .i64, 1, 8, [.int .i64 0]⟩),
  (3, ⟨.int .i64, 1, 8, [.int .i64 0]⟩),
  (4, ⟨.bool, 1, 1, [.bool false]⟩),
  (5, ⟨.int .u8, 1, 1, [.int .u8 0]⟩),
  (9, ⟨.str, 1, 16, [.str []]⟩),
  (12, ⟨.int .u64, 1, 8, [.int .u64 0]⟩),
  (15, ⟨.ptr 89, 1, 8, [.nilp]⟩),
  (16, ⟨.ptr 92, 1, 8, [.nilp]⟩),
  (17, ⟨.ptr 102, 1, 8, [.nilp]⟩),
  (21, ⟨.int .i32, 1, 4, [.int .i32 0]⟩),
  (22, ⟨.slice 9, 1, 24, [.nils]⟩),
  (24, ⟨.slice 3, 1, 24, [.nils]⟩),
  (25, ⟨.slice 55, 1, 24, [.nils]⟩),
  (26, ⟨.struct [(0, 1, false), (1, 1, false)] [], 2, 48, [.nils, .nils]⟩),
  (27, ⟨.struct [(0, 1, false), (1, 1, false)] [], 2, 48, [.nils, .nils]⟩),
  (28, ⟨.struct [(0, 1, false), (1, 1, false)] [.i .i64, .i .i64], 2, 16, [.int .i64 0, .int .i64 0]⟩),
  (29, ⟨.struct [(0, 1, false), (1, 1, false)] [.i .i64, .i .i64], 2, 16, [.int .i64 0, .int .i64 0]⟩),
  (54, ⟨.struct [(0, 1, false), (1, 1, false)] [], 2, 40, [.str [], .nils]⟩),
  (55, ⟨.struct [(0, 1, false), (1, 1, false)] [], 2, 40, [.str [], .nils]⟩),
  (57, ⟨.ptr 27, 1, 8, [.nilp]⟩),
  (82, ⟨.int .u64, 1, 8, [.int .u64 0]⟩),
  (90, ⟨.array 0 16, 0, 0, []⟩),
  (94, ⟨.int .u32, 1, 4, [.int .u32 0]⟩),
  (98, ⟨.ptr 5, 1, 8, [.nilp]⟩)]
theorem tab_ok : tab.all (fun p => tyB Try.prog p.1 p.2) = true := by kernel_rfl
def T : Ctx Try.prog := Ctx.ofTab tab tab_ok
theorem ty2 : T.ty 2 = some ⟨.int .i64, 1, 8, [.int .i64 0]⟩ := rfl
theorem ty3 : T.ty 3 = some ⟨.int .i64, 1, 8, [.int .i64 0]⟩ := rfl
theorem ty4 : T.ty 4 = some ⟨.bool, 1, 1, [.bool false]⟩ := rfl
theorem ty5 : T.ty 5 = some ⟨.int .u8, 1, 1, [.int .u8 0]⟩ := rfl
theorem ty9 : T.ty 9 = some ⟨.str, 1, 16, [.str []]⟩ := rfl
theorem ty12 : T.ty 12 = some ⟨.int .u64, 1, 8, [.int .u64 0]⟩ := rfl
theorem ty15 : T.ty 15 = some ⟨.ptr 89, 1, 8, [.nilp]⟩ := rfl
theorem ty16 : T.ty 16 = some ⟨.ptr 92, 1, 8, [.nilp]⟩ := rfl
theorem ty17 : T.ty 17 = some ⟨.ptr 102, 1, 8, [.nilp]⟩ := rfl
theorem ty21 : T.ty 21 = some ⟨.int .i32, 1, 4, [.int .i32 0]⟩ := rfl
theorem ty22 : T.ty 22 = some ⟨.slice 9, 1, 24, [.nils]⟩ := rfl
theorem ty24 : T.ty 24 = some ⟨.slice 3, 1, 24, [.nils]⟩ := rfl
theorem ty25 : T.ty 25 = some ⟨.slice 55, 1, 24, [.nils]⟩ := rfl
theorem ty26 : T.ty 26 = some ⟨.struct [(0, 1, false), (1, 1, false)] [], 2, 48, [.nils, .nils]⟩ := rfl
theorem ty27 : T.ty 27 = some ⟨.struct [(0, 1, false), (1, 1, false)] [], 2, 48, [.nils, .nils]⟩ := rfl
theorem ty28 : T.ty 28 = some ⟨.struct [(0, 1, false), (1, 1, false)] [.i .i64, .i .i64], 2, 16, [.int .i64 0, .int .i64 0]⟩ := rfl
theorem ty29 : T.ty 29 = some ⟨.struct [(0, 1, false), (1, 1, false)] [.i .i64, .i .i64], 2, 16, [.int .i64 0, .int .i64 0]⟩ := rfl
theorem ty54 : T.ty 54 = some ⟨.struct [(0, 1, false), (1, 1, false)] [], 2, 40, [.str [], .nils]⟩ := rfl
theorem ty55 : T.ty 55 = some ⟨.struct [(0, 1, false), (1, 1, false)] [], 2, 40, [.str [], .nils]⟩ := rfl
theorem ty57 : T.ty 57 = some ⟨.ptr 27, 1, 8, [.nilp]⟩ := rfl
theorem ty82 : T.ty 82 = some ⟨.int .u64, 1, 8, [.int .u64 0]⟩ := rfl
theorem ty90 : T.ty 90 = some ⟨.array 0 16, 0, 0, []⟩ := rfl
theorem ty94 : T.ty 94 = some ⟨.int .u32, 1, 4, [.int .u32 0]⟩ := rfl
theorem ty98 : T.ty 98 = some ⟨.ptr 5, 1, 8, [.nilp]⟩ := rfl
theorem tys : T.ty 2 = some ⟨.int .i64, 1, 8, [.int .i64 0]⟩ ∧ T.ty 3 = some ⟨.int .i64, 1, 8, [.int .i64 0]⟩ ∧ T.ty 4 = some ⟨.bool, 1, 1, [.bool false]⟩ ∧ T.ty 5 = some ⟨.int .u8, 1, 1, [.int .u8 0]⟩ ∧ T.ty 9 = some ⟨.str, 1, 16, [.str []]⟩ ∧ T.ty 12 = some ⟨.int .u64, 1, 8, [.int .u64 0]⟩ ∧ T.ty 15 = some ⟨.ptr 89, 1, 8, [.nilp]⟩ ∧ T.ty 16 = some ⟨.ptr 92, 1, 8, [.nilp]⟩ ∧ T.ty 17 = some ⟨.ptr 102, 1, 8, [.nilp]⟩ ∧ T.ty 21 = some ⟨.int .i32, 1, 4, [.int .i32 0]⟩ ∧ T.ty 22 = some ⟨.slice 9, 1, 24, [.nils]⟩ ∧ T.ty 24 = some ⟨.slice 3, 1, 24, [.nils]⟩ ∧ T.ty 25 = some ⟨.slice 55, 1, 24, [.nils]⟩ ∧ T.ty 26 = some ⟨.struct [(0, 1, false), (1, 1, false)] [], 2, 48, [.nils, .nils]⟩ ∧ T.ty 27 = some ⟨.struct [(0, 1, false), (1, 1, false)] [], 2, 48, [.nils, .nils]⟩ ∧ T.ty 28 = some ⟨.struct [(0, 1, false), (1, 1, false)] [.i .i64, .i .i64], 2, 16, [.int .i64 0, .int .i64 0]⟩ ∧ T.ty 29 = some ⟨.struct [(0, 1, false), (1, 1, false)] [.i .i64, .i .i64], 2, 16, [.int .i64 0, .int .i64 0]⟩ ∧ T.ty 54 = some ⟨.struct [(0, 1, false), (1, 1, false)] [], 2, 40, [.str [], .nils]⟩ ∧ T.ty 55 = some ⟨.struct [(0, 1, false), (1, 1, false)] [], 2, 40, [.str [], .nils]⟩ ∧ T.ty 57 = some ⟨.ptr 27, 1, 8, [.nilp]⟩ ∧ T.ty 82 = some ⟨.int .u64, 1, 8, [.int .u64 0]⟩ ∧ T.ty 90 = some ⟨.array 0 16, 0, 0, []⟩ ∧ T.ty 94 = some ⟨.int .u32, 1, 4, [.int .u32 0]⟩ ∧ T.ty 98 = some ⟨.ptr 5, 1, 8, [.nilp]⟩ := ⟨rfl, rfl, rfl, rfl, rfl, rfl, rfl, rfl, rfl, rfl, rfl, rfl, rfl, rfl, rfl, rfl, rfl, rfl, rfl, rfl, rfl, rfl, rfl, rfl⟩
theorem hmix : Try.prog.follows .mixedOrders = true := by kernel_rfl
end Go.Proofs.Ytjdhadbnmghdgaa
