/- The types' table of the seat (printed by wip/gen/ty.py). -/
import Derived.Test.YtjpkgmmmmcgmeaaProg
import Derived.Test.YtjpkgmmmmcgmeaaV3
set_option linter.all false
namespace Go.Proofs.Ytjpkgmmmmcgmeaa
open Go Go.Vc
def tab : List (Nat × TI) := [
  (2, ⟨.int .i64, 1, 8, [.int .i64 0]⟩),
  (3, ⟨.int .i64, 1, 8, [.int .i64 0]⟩),
  (4, ⟨.bool, 1, 1, [.bool false]⟩),
  (5, ⟨.int .u8, 1, 1, [.int .u8 0]⟩),
  (9, ⟨.str, 1, 16, [.str []]⟩),
  (12, ⟨.int .u64, 1, 8, [.int .u64 0]⟩),
  (15, ⟨.ptr 109, 1, 8, [.nilp]⟩),
  (16, ⟨.ptr 112, 1, 8, [.nilp]⟩),
  (17, ⟨.ptr 121, 1, 8, [.nilp]⟩),
  (21, ⟨.int .i32, 1, 4, [.int .i32 0]⟩),
  (22, ⟨.slice 52, 1, 24, [.nils]⟩),
  (24, ⟨.struct [(0, 1, false), (1, 1, false)] [.i .i64, .i .i64], 2, 16, [.int .i64 0, .int .i64 0]⟩),
  (25, ⟨.struct [(0, 1, false), (1, 1, false)] [.i .i64, .i .i64], 2, 16, [.int .i64 0, .int .i64 0]⟩),
  (34, ⟨.slice 3, 1, 24, [.nils]⟩),
  (46, ⟨.slice 73, 1, 24, [.nils]⟩),
  (51, ⟨.struct [(0, 1, false), (1, 1, false)] [], 2, 32, [.int .i64 0, .nils]⟩),
  (52, ⟨.struct [(0, 1, false), (1, 1, false)] [], 2, 32, [.int .i64 0, .nils]⟩),
  (61, ⟨.slice 63, 1, 24, [.nils]⟩),
  (63, ⟨.slice 4, 1, 24, [.nils]⟩),
  (64, ⟨.array 60 4, 60, 60, List.replicate 60 (.bool false)⟩),
  (66, ⟨.array 60 64, 3600, 3600, List.replicate 3600 (.bool false)⟩),
  (68, ⟨.array 60 3, 60, 480, List.replicate 60 (.int .i64 0)⟩),
  (72, ⟨.struct [(0, 1, false), (1, 1, false), (2, 1, false), (3, 1, false), (4, 1, false)] [], 5, 64, [.nils, .int .i64 0, .int .i64 0, .int .i64 0, .str []]⟩),
  (73, ⟨.struct [(0, 1, false), (1, 1, false), (2, 1, false), (3, 1, false), (4, 1, false)] [], 5, 64, [.nils, .int .i64 0, .int .i64 0, .int .i64 0, .str []]⟩),
  (75, ⟨.slice 22, 1, 24, [.nils]⟩),
  (79, ⟨.int .u64, 1, 8, [.int .u64 0]⟩),
  (87, ⟨.int .i64, 1, 8, [.int .i64 0]⟩),
  (95, ⟨.int .u32, 1, 4, [.int .u32 0]⟩),
  (97, ⟨.int .u64, 1, 8, [.int .u64 0]⟩),
  (98, ⟨.int .u64, 1, 8, [.int .u64 0]⟩),
  (102, ⟨.ptr 3, 1, 8, [.nilp]⟩),
  (104, ⟨.ptr 98, 1, 8, [.nilp]⟩),
  (110, ⟨.array 0 16, 0, 0, []⟩),
  (117, ⟨.ptr 5, 1, 8, [.nilp]⟩)]
theorem tab_ok : tab.all (fun p => tyB Try.prog p.1 p.2) = true := by kernel_rfl
def T : Ctx Try.prog := Ctx.ofTab tab tab_ok
theorem ty2 : T.ty 2 = some ⟨.int .i64, 1, 8, [.int .i64 0]⟩ := rfl
theorem ty3 : T.ty 3 = some ⟨.int .i64, 1, 8, [.int .i64 0]⟩ := rfl
theorem ty4 : T.ty 4 = some ⟨.bool, 1, 1, [.bool false]⟩ := rfl
theorem ty5 : T.ty 5 = some ⟨.int .u8, 1, 1, [.int .u8 0]⟩ := rfl
theorem ty9 : T.ty 9 = some ⟨.str, 1, 16, [.str []]⟩ := rfl
theorem ty12 : T.ty 12 = some ⟨.int .u64, 1, 8, [.int .u64 0]⟩ := rfl
theorem ty15 : T.ty 15 = some ⟨.ptr 109, 1, 8, [.nilp]⟩ := rfl
theorem ty16 : T.ty 16 = some ⟨.ptr 112, 1, 8, [.nilp]⟩ := rfl
theorem ty17 : T.ty 17 = some ⟨.ptr 121, 1, 8, [.nilp]⟩ := rfl
theorem ty21 : T.ty 21 = some ⟨.int .i32, 1, 4, [.int .i32 0]⟩ := rfl
theorem ty22 : T.ty 22 = some ⟨.slice 52, 1, 24, [.nils]⟩ := rfl
theorem ty24 : T.ty 24 = some ⟨.struct [(0, 1, false), (1, 1, false)] [.i .i64, .i .i64], 2, 16, [.int .i64 0, .int .i64 0]⟩ := rfl
theorem ty25 : T.ty 25 = some ⟨.struct [(0, 1, false), (1, 1, false)] [.i .i64, .i .i64], 2, 16, [.int .i64 0, .int .i64 0]⟩ := rfl
theorem ty34 : T.ty 34 = some ⟨.slice 3, 1, 24, [.nils]⟩ := rfl
theorem ty46 : T.ty 46 = some ⟨.slice 73, 1, 24, [.nils]⟩ := rfl
theorem ty51 : T.ty 51 = some ⟨.struct [(0, 1, false), (1, 1, false)] [], 2, 32, [.int .i64 0, .nils]⟩ := rfl
theorem ty52 : T.ty 52 = some ⟨.struct [(0, 1, false), (1, 1, false)] [], 2, 32, [.int .i64 0, .nils]⟩ := rfl
theorem ty61 : T.ty 61 = some ⟨.slice 63, 1, 24, [.nils]⟩ := rfl
theorem ty63 : T.ty 63 = some ⟨.slice 4, 1, 24, [.nils]⟩ := rfl
theorem ty64 : T.ty 64 = some ⟨.array 60 4, 60, 60, List.replicate 60 (.bool false)⟩ := rfl
theorem ty66 : T.ty 66 = some ⟨.array 60 64, 3600, 3600, List.replicate 3600 (.bool false)⟩ := rfl
theorem ty68 : T.ty 68 = some ⟨.array 60 3, 60, 480, List.replicate 60 (.int .i64 0)⟩ := rfl
theorem ty72 : T.ty 72 = some ⟨.struct [(0, 1, false), (1, 1, false), (2, 1, false), (3, 1, false), (4, 1, false)] [], 5, 64, [.nils, .int .i64 0, .int .i64 0, .int .i64 0, .str []]⟩ := rfl
theorem ty73 : T.ty 73 = some ⟨.struct [(0, 1, false), (1, 1, false), (2, 1, false), (3, 1, false), (4, 1, false)] [], 5, 64, [.nils, .int .i64 0, .int .i64 0, .int .i64 0, .str []]⟩ := rfl
theorem ty75 : T.ty 75 = some ⟨.slice 22, 1, 24, [.nils]⟩ := rfl
theorem ty79 : T.ty 79 = some ⟨.int .u64, 1, 8, [.int .u64 0]⟩ := rfl
theorem ty87 : T.ty 87 = some ⟨.int .i64, 1, 8, [.int .i64 0]⟩ := rfl
theorem ty95 : T.ty 95 = some ⟨.int .u32, 1, 4, [.int .u32 0]⟩ := rfl
theorem ty97 : T.ty 97 = some ⟨.int .u64, 1, 8, [.int .u64 0]⟩ := rfl
theorem ty98 : T.ty 98 = some ⟨.int .u64, 1, 8, [.int .u64 0]⟩ := rfl
theorem ty102 : T.ty 102 = some ⟨.ptr 3, 1, 8, [.nilp]⟩ := rfl
theorem ty104 : T.ty 104 = some ⟨.ptr 98, 1, 8, [.nilp]⟩ := rfl
theorem ty110 : T.ty 110 = some ⟨.array 0 16, 0, 0, []⟩ := rfl
theorem ty117 : T.ty 117 = some ⟨.ptr 5, 1, 8, [.nilp]⟩ := rfl
theorem tys : T.ty 2 = some ⟨.int .i64, 1, 8, [.int .i64 0]⟩ ∧ T.ty 3 = some ⟨.int .i64, 1, 8, [.int .i64 0]⟩ ∧ T.ty 4 = some ⟨.bool, 1, 1, [.bool false]⟩ ∧ T.ty 5 = some ⟨.int .u8, 1, 1, [.int .u8 0]⟩ ∧ T.ty 9 = some ⟨.str, 1, 16, [.str []]⟩ ∧ T.ty 12 = some ⟨.int .u64, 1, 8, [.int .u64 0]⟩ ∧ T.ty 15 = some ⟨.ptr 109, 1, 8, [.nilp]⟩ ∧ T.ty 16 = some ⟨.ptr 112, 1, 8, [.nilp]⟩ ∧ T.ty 17 = some ⟨.ptr 121, 1, 8, [.nilp]⟩ ∧ T.ty 21 = some ⟨.int .i32, 1, 4, [.int .i32 0]⟩ ∧ T.ty 22 = some ⟨.slice 52, 1, 24, [.nils]⟩ ∧ T.ty 24 = some ⟨.struct [(0, 1, false), (1, 1, false)] [.i .i64, .i .i64], 2, 16, [.int .i64 0, .int .i64 0]⟩ ∧ T.ty 25 = some ⟨.struct [(0, 1, false), (1, 1, false)] [.i .i64, .i .i64], 2, 16, [.int .i64 0, .int .i64 0]⟩ ∧ T.ty 34 = some ⟨.slice 3, 1, 24, [.nils]⟩ ∧ T.ty 46 = some ⟨.slice 73, 1, 24, [.nils]⟩ ∧ T.ty 51 = some ⟨.struct [(0, 1, false), (1, 1, false)] [], 2, 32, [.int .i64 0, .nils]⟩ ∧ T.ty 52 = some ⟨.struct [(0, 1, false), (1, 1, false)] [], 2, 32, [.int .i64 0, .nils]⟩ ∧ T.ty 61 = some ⟨.slice 63, 1, 24, [.nils]⟩ ∧ T.ty 63 = some ⟨.slice 4, 1, 24, [.nils]⟩ ∧ T.ty 64 = some ⟨.array 60 4, 60, 60, List.replicate 60 (.bool false)⟩ ∧ T.ty 66 = some ⟨.array 60 64, 3600, 3600, List.replicate 3600 (.bool false)⟩ ∧ T.ty 68 = some ⟨.array 60 3, 60, 480, List.replicate 60 (.int .i64 0)⟩ ∧ T.ty 72 = some ⟨.struct [(0, 1, false), (1, 1, false), (2, 1, false), (3, 1, false), (4, 1, false)] [], 5, 64, [.nils, .int .i64 0, .int .i64 0, .int .i64 0, .str []]⟩ ∧ T.ty 73 = some ⟨.struct [(0, 1, false), (1, 1, false), (2, 1, false), (3, 1, false), (4, 1, false)] [], 5, 64, [.nils, .int .i64 0, .int .i64 0, .int .i64 0, .str []]⟩ ∧ T.ty 75 = some ⟨.slice 22, 1, 24, [.nils]⟩ ∧ T.ty 79 = some ⟨.int .u64, 1, 8, [.int .u64 0]⟩ ∧ T.ty 87 = some ⟨.int .i64, 1, 8, [.int .i64 0]⟩ ∧ T.ty 95 = some ⟨.int .u32, 1, 4, [.int .u32 0]⟩ ∧ T.ty 97 = some ⟨.int .u64, 1, 8, [.int .u64 0]⟩ ∧ T.ty 98 = some ⟨.int .u64, 1, 8, [.int .u64 0]⟩ ∧ T.ty 102 = some ⟨.ptr 3, 1, 8, [.nilp]⟩ ∧ T.ty 104 = some ⟨.ptr 98, 1, 8, [.nilp]⟩ ∧ T.ty 110 = some ⟨.array 0 16, 0, 0, []⟩ ∧ T.ty 117 = some ⟨.ptr 5, 1, 8, [.nilp]⟩ := ⟨rfl, rfl, rfl, rfl, rfl, rfl, rfl, rfl, rfl, rfl, rfl, rfl, rfl, rfl, rfl, rfl, rfl, rfl, rfl, rfl, rfl, rfl, rfl, rfl, rfl, rfl, rfl, rfl, rfl, rfl, rfl, rfl, rfl, rfl⟩
theorem hmix : Try.prog.follows .mixedOrders = true := by kernel_rfl
end Go.Proofs.Ytjpkgmmmmcgmeaa
