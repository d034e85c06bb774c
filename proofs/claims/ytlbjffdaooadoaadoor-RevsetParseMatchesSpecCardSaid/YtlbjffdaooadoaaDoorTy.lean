/- The types' table of the seat (printed by wip/gen/ty.py). -/
import Derived.Test.YtlbjffdaooadoaaDoorProg
import Derived.Test.YtlbjffdaooadoaaDoorV3
set_option linter.all false
namespace Go.Proofs.YtlbjffdaooadoaaDoor
open Go Go.Vc
def tab : List (Nat × TI) := [
  (2, ⟨.int .i64, 1, 8, [.int .i64 0]⟩),
  (3, ⟨.int .i64, 1, 8, [.int .i64 0]⟩),
  (4, ⟨.bool, 1, 1, [.bool false]⟩),
  (5, ⟨.int .u8, 1, 1, [.int .u8 0]⟩),
  (9, ⟨.str, 1, 16, [.str []]⟩),
  (12, ⟨.int .u64, 1, 8, [.int .u64 0]⟩),
  (15, ⟨.ptr 165, 1, 8, [.nilp]⟩),
  (16, ⟨.ptr 168, 1, 8, [.nilp]⟩),
  (17, ⟨.ptr 176, 1, 8, [.nilp]⟩),
  (21, ⟨.int .i32, 1, 4, [.int .i32 0]⟩),
  (22, ⟨.slice 39, 1, 24, [.nils]⟩),
  (23, ⟨.struct [(0, 1, false)] [], 1, 24, [.nils]⟩),
  (24, ⟨.struct [(0, 1, false)] [], 1, 24, [.nils]⟩),
  (26, ⟨.struct [(0, 1, false), (1, 1, false)] [.i .i64, .i .i64], 2, 16, [.int .i64 0, .int .i64 0]⟩),
  (27, ⟨.struct [(0, 1, false), (1, 1, false)] [.i .i64, .i .i64], 2, 16, [.int .i64 0, .int .i64 0]⟩),
  (38, ⟨.struct [(0, 1, false), (1, 1, false), (2, 1, false), (3, 1, false)] [.i .i64, .i .i64, .i .i64, .i .i64], 4, 32, [.int .i64 0, .int .i64 0, .int .i64 0, .int .i64 0]⟩),
  (39, ⟨.struct [(0, 1, false), (1, 1, false), (2, 1, false), (3, 1, false)] [.i .i64, .i .i64, .i .i64, .i .i64], 4, 32, [.int .i64 0, .int .i64 0, .int .i64 0, .int .i64 0]⟩),
  (40, ⟨.slice 74, 1, 24, [.nils]⟩),
  (41, ⟨.slice 4, 1, 24, [.nils]⟩),
  (59, ⟨.ptr 99, 1, 8, [.nilp]⟩),
  (63, ⟨.ptr 24, 1, 8, [.nilp]⟩),
  (65, ⟨.slice 3, 1, 24, [.nils]⟩),
  (73, ⟨.struct [(0, 1, false), (1, 1, false), (2, 1, false), (3, 1, false), (4, 1, false)] [], 5, 64, [.nils, .int .i64 0, .int .i64 0, .int .i64 0, .str []]⟩),
  (74, ⟨.struct [(0, 1, false), (1, 1, false), (2, 1, false), (3, 1, false), (4, 1, false)] [], 5, 64, [.nils, .int .i64 0, .int .i64 0, .int .i64 0, .str []]⟩),
  (75, ⟨.slice 41, 1, 24, [.nils]⟩),
  (84, ⟨.struct [(0, 1, false), (1, 1, false), (2, 1, false), (3, 1, false), (4, 1, false)] [], 5, 64, [.str [], .int .i64 0, .int .i64 0, .nils, .int .i64 0]⟩),
  (85, ⟨.struct [(0, 1, false), (1, 1, false), (2, 1, false), (3, 1, false), (4, 1, false)] [], 5, 64, [.str [], .int .i64 0, .int .i64 0, .nils, .int .i64 0]⟩),
  (88, ⟨.ptr 92, 1, 8, [.nilp]⟩),
  (89, ⟨.slice 94, 1, 24, [.nils]⟩),
  (91, ⟨.struct [(0, 1, false), (1, 1, false), (2, 1, false), (3, 1, false), (4, 2, true)] [], 6, 112, [.nils, .nils, .nils, .nils, .int .i64 0, .int .i64 0]⟩),
  (92, ⟨.struct [(0, 1, false), (1, 1, false), (2, 1, false), (3, 1, false), (4, 2, true)] [], 6, 112, [.nils, .nils, .nils, .nils, .int .i64 0, .int .i64 0]⟩),
  (93, ⟨.struct [(0, 1, false), (1, 1, false)] [.s, .i .i64], 2, 24, [.str [], .int .i64 0]⟩),
  (94, ⟨.struct [(0, 1, false), (1, 1, false)] [.s, .i .i64], 2, 24, [.str [], .int .i64 0]⟩),
  (98, ⟨.struct [(0, 1, false), (1, 1, false), (2, 1, false), (3, 1, false)] [], 4, 32, [.int .i64 0, .int .i64 0, .nilp, .nilp]⟩),
  (99, ⟨.struct [(0, 1, false), (1, 1, false), (2, 1, false), (3, 1, false)] [], 4, 32, [.int .i64 0, .int .i64 0, .nilp, .nilp]⟩),
  (109, ⟨.array 2 3, 2, 16, [.int .i64 0, .int .i64 0]⟩),
  (110, ⟨.ptr 85, 1, 8, [.nilp]⟩),
  (116, ⟨.slice 9, 1, 24, [.nils]⟩),
  (117, ⟨.array 17 9, 17, 272, List.replicate 17 (.str [])⟩),
  (118, ⟨.array 17 3, 17, 136, List.replicate 17 (.int .i64 0)⟩),
  (130, ⟨.array 24 5, 24, 24, List.replicate 24 (.int .u8 0)⟩),
  (131, ⟨.int .u64, 1, 8, [.int .u64 0]⟩),
  (134, ⟨.slice 5, 1, 24, [.nils]⟩),
  (139, ⟨.array 20 131, 20, 160, List.replicate 20 (.int .u64 0)⟩),
  (140, ⟨.int .u32, 1, 4, [.int .u32 0]⟩),
  (141, ⟨.array 65 5, 65, 65, []⟩),
  (142, ⟨.int .u64, 1, 8, [.int .u64 0]⟩),
  (147, ⟨.ptr 155, 1, 8, [.nilp]⟩),
  (157, ⟨.array 32 5, 32, 32, List.replicate 32 (.int .u8 0)⟩),
  (158, ⟨.array 64 5, 64, 64, List.replicate 64 (.int .u8 0)⟩),
  (160, ⟨.ptr 5, 1, 8, [.nilp]⟩),
  (161, ⟨.ptr 163, 1, 8, [.nilp]⟩),
  (162, ⟨.struct [(0, 1, false)] [.s], 1, 16, [.str []]⟩),
  (163, ⟨.struct [(0, 1, false)] [.s], 1, 16, [.str []]⟩),
  (166, ⟨.array 0 16, 0, 0, []⟩)]
theorem tab_ok : tab.all (fun p => tyB Tryd.prog p.1 p.2) = true := by kernel_rfl
def T : Ctx Tryd.prog := Ctx.ofTab tab tab_ok
theorem ty2 : T.ty 2 = some ⟨.int .i64, 1, 8, [.int .i64 0]⟩ := rfl
theorem ty3 : T.ty 3 = some ⟨.int .i64, 1, 8, [.int .i64 0]⟩ := rfl
theorem ty4 : T.ty 4 = some ⟨.bool, 1, 1, [.bool false]⟩ := rfl
theorem ty5 : T.ty 5 = some ⟨.int .u8, 1, 1, [.int .u8 0]⟩ := rfl
theorem ty9 : T.ty 9 = some ⟨.str, 1, 16, [.str []]⟩ := rfl
theorem ty12 : T.ty 12 = some ⟨.int .u64, 1, 8, [.int .u64 0]⟩ := rfl
theorem ty15 : T.ty 15 = some ⟨.ptr 165, 1, 8, [.nilp]⟩ := rfl
theorem ty16 : T.ty 16 = some ⟨.ptr 168, 1, 8, [.nilp]⟩ := rfl
theorem ty17 : T.ty 17 = some ⟨.ptr 176, 1, 8, [.nilp]⟩ := rfl
theorem ty21 : T.ty 21 = some ⟨.int .i32, 1, 4, [.int .i32 0]⟩ := rfl
theorem ty22 : T.ty 22 = some ⟨.slice 39, 1, 24, [.nils]⟩ := rfl
theorem ty23 : T.ty 23 = some ⟨.struct [(0, 1, false)] [], 1, 24, [.nils]⟩ := rfl
theorem ty24 : T.ty 24 = some ⟨.struct [(0, 1, false)] [], 1, 24, [.nils]⟩ := rfl
theorem ty26 : T.ty 26 = some ⟨.struct [(0, 1, false), (1, 1, false)] [.i .i64, .i .i64], 2, 16, [.int .i64 0, .int .i64 0]⟩ := rfl
theorem ty27 : T.ty 27 = some ⟨.struct [(0, 1, false), (1, 1, false)] [.i .i64, .i .i64], 2, 16, [.int .i64 0, .int .i64 0]⟩ := rfl
theorem ty38 : T.ty 38 = some ⟨.struct [(0, 1, false), (1, 1, false), (2, 1, false), (3, 1, false)] [.i .i64, .i .i64, .i .i64, .i .i64], 4, 32, [.int .i64 0, .int .i64 0, .int .i64 0, .int .i64 0]⟩ := rfl
theorem ty39 : T.ty 39 = some ⟨.struct [(0, 1, false), (1, 1, false), (2, 1, false), (3, 1, false)] [.i .i64, .i .i64, .i .i64, .i .i64], 4, 32, [.int .i64 0, .int .i64 0, .int .i64 0, .int .i64 0]⟩ := rfl
theorem ty40 : T.ty 40 = some ⟨.slice 74, 1, 24, [.nils]⟩ := rfl
theorem ty41 : T.ty 41 = some ⟨.slice 4, 1, 24, [.nils]⟩ := rfl
theorem ty59 : T.ty 59 = some ⟨.ptr 99, 1, 8, [.nilp]⟩ := rfl
theorem ty63 : T.ty 63 = some ⟨.ptr 24, 1, 8, [.nilp]⟩ := rfl
theorem ty65 : T.ty 65 = some ⟨.slice 3, 1, 24, [.nils]⟩ := rfl
theorem ty73 : T.ty 73 = some ⟨.struct [(0, 1, false), (1, 1, false), (2, 1, false), (3, 1, false), (4, 1, false)] [], 5, 64, [.nils, .int .i64 0, .int .i64 0, .int .i64 0, .str []]⟩ := rfl
theorem ty74 : T.ty 74 = some ⟨.struct [(0, 1, false), (1, 1, false), (2, 1, false), (3, 1, false), (4, 1, false)] [], 5, 64, [.nils, .int .i64 0, .int .i64 0, .int .i64 0, .str []]⟩ := rfl
theorem ty75 : T.ty 75 = some ⟨.slice 41, 1, 24, [.nils]⟩ := rfl
theorem ty84 : T.ty 84 = some ⟨.struct [(0, 1, false), (1, 1, false), (2, 1, false), (3, 1, false), (4, 1, false)] [], 5, 64, [.str [], .int .i64 0, .int .i64 0, .nils, .int .i64 0]⟩ := rfl
theorem ty85 : T.ty 85 = some ⟨.struct [(0, 1, false), (1, 1, false), (2, 1, false), (3, 1, false), (4, 1, false)] [], 5, 64, [.str [], .int .i64 0, .int .i64 0, .nils, .int .i64 0]⟩ := rfl
theorem ty88 : T.ty 88 = some ⟨.ptr 92, 1, 8, [.nilp]⟩ := rfl
theorem ty89 : T.ty 89 = some ⟨.slice 94, 1, 24, [.nils]⟩ := rfl
theorem ty91 : T.ty 91 = some ⟨.struct [(0, 1, false), (1, 1, false), (2, 1, false), (3, 1, false), (4, 2, true)] [], 6, 112, [.nils, .nils, .nils, .nils, .int .i64 0, .int .i64 0]⟩ := rfl
theorem ty92 : T.ty 92 = some ⟨.struct [(0, 1, false), (1, 1, false), (2, 1, false), (3, 1, false), (4, 2, true)] [], 6, 112, [.nils, .nils, .nils, .nils, .int .i64 0, .int .i64 0]⟩ := rfl
theorem ty93 : T.ty 93 = some ⟨.struct [(0, 1, false), (1, 1, false)] [.s, .i .i64], 2, 24, [.str [], .int .i64 0]⟩ := rfl
theorem ty94 : T.ty 94 = some ⟨.struct [(0, 1, false), (1, 1, false)] [.s, .i .i64], 2, 24, [.str [], .int .i64 0]⟩ := rfl
theorem ty98 : T.ty 98 = some ⟨.struct [(0, 1, false), (1, 1, false), (2, 1, false), (3, 1, false)] [], 4, 32, [.int .i64 0, .int .i64 0, .nilp, .nilp]⟩ := rfl
theorem ty99 : T.ty 99 = some ⟨.struct [(0, 1, false), (1, 1, false), (2, 1, false), (3, 1, false)] [], 4, 32, [.int .i64 0, .int .i64 0, .nilp, .nilp]⟩ := rfl
theorem ty109 : T.ty 109 = some ⟨.array 2 3, 2, 16, [.int .i64 0, .int .i64 0]⟩ := rfl
theorem ty110 : T.ty 110 = some ⟨.ptr 85, 1, 8, [.nilp]⟩ := rfl
theorem ty116 : T.ty 116 = some ⟨.slice 9, 1, 24, [.nils]⟩ := rfl
theorem ty117 : T.ty 117 = some ⟨.array 17 9, 17, 272, List.replicate 17 (.str [])⟩ := rfl
theorem ty118 : T.ty 118 = some ⟨.array 17 3, 17, 136, List.replicate 17 (.int .i64 0)⟩ := rfl
theorem ty130 : T.ty 130 = some ⟨.array 24 5, 24, 24, List.replicate 24 (.int .u8 0)⟩ := rfl
theorem ty131 : T.ty 131 = some ⟨.int .u64, 1, 8, [.int .u64 0]⟩ := rfl
theorem ty134 : T.ty 134 = some ⟨.slice 5, 1, 24, [.nils]⟩ := rfl
theorem ty139 : T.ty 139 = some ⟨.array 20 131, 20, 160, List.replicate 20 (.int .u64 0)⟩ := rfl
theorem ty140 : T.ty 140 = some ⟨.int .u32, 1, 4, [.int .u32 0]⟩ := rfl
theorem ty141 : T.ty 141 = some ⟨.array 65 5, 65, 65, []⟩ := rfl
theorem ty142 : T.ty 142 = some ⟨.int .u64, 1, 8, [.int .u64 0]⟩ := rfl
theorem ty147 : T.ty 147 = some ⟨.ptr 155, 1, 8, [.nilp]⟩ := rfl
theorem ty157 : T.ty 157 = some ⟨.array 32 5, 32, 32, List.replicate 32 (.int .u8 0)⟩ := rfl
theorem ty158 : T.ty 158 = some ⟨.array 64 5, 64, 64, List.replicate 64 (.int .u8 0)⟩ := rfl
theorem ty160 : T.ty 160 = some ⟨.ptr 5, 1, 8, [.nilp]⟩ := rfl
theorem ty161 : T.ty 161 = some ⟨.ptr 163, 1, 8, [.nilp]⟩ := rfl
theorem ty162 : T.ty 162 = some ⟨.struct [(0, 1, false)] [.s], 1, 16, [.str []]⟩ := rfl
theorem ty163 : T.ty 163 = some ⟨.struct [(0, 1, false)] [.s], 1, 16, [.str []]⟩ := rfl
theorem ty166 : T.ty 166 = some ⟨.array 0 16, 0, 0, []⟩ := rfl
theorem tys : T.ty 2 = some ⟨.int .i64, 1, 8, [.int .i64 0]⟩ ∧ T.ty 3 = some ⟨.int .i64, 1, 8, [.int .i64 0]⟩ ∧ T.ty 4 = some ⟨.bool, 1, 1, [.bool false]⟩ ∧ T.ty 5 = some ⟨.int .u8, 1, 1, [.int .u8 0]⟩ ∧ T.ty 9 = some ⟨.str, 1, 16, [.str []]⟩ ∧ T.ty 12 = some ⟨.int .u64, 1, 8, [.int .u64 0]⟩ ∧ T.ty 15 = some ⟨.ptr 165, 1, 8, [.nilp]⟩ ∧ T.ty 16 = some ⟨.ptr 168, 1, 8, [.nilp]⟩ ∧ T.ty 17 = some ⟨.ptr 176, 1, 8, [.nilp]⟩ ∧ T.ty 21 = some ⟨.int .i32, 1, 4, [.int .i32 0]⟩ ∧ T.ty 22 = some ⟨.slice 39, 1, 24, [.nils]⟩ ∧ T.ty 23 = some ⟨.struct [(0, 1, false)] [], 1, 24, [.nils]⟩ ∧ T.ty 24 = some ⟨.struct [(0, 1, false)] [], 1, 24, [.nils]⟩ ∧ T.ty 26 = some ⟨.struct [(0, 1, false), (1, 1, false)] [.i .i64, .i .i64], 2, 16, [.int .i64 0, .int .i64 0]⟩ ∧ T.ty 27 = some ⟨.struct [(0, 1, false), (1, 1, false)] [.i .i64, .i .i64], 2, 16, [.int .i64 0, .int .i64 0]⟩ ∧ T.ty 38 = some ⟨.struct [(0, 1, false), (1, 1, false), (2, 1, false), (3, 1, false)] [.i .i64, .i .i64, .i .i64, .i .i64], 4, 32, [.int .i64 0, .int .i64 0, .int .i64 0, .int .i64 0]⟩ ∧ T.ty 39 = some ⟨.struct [(0, 1, false), (1, 1, false), (2, 1, false), (3, 1, false)] [.i .i64, .i .i64, .i .i64, .i .i64], 4, 32, [.int .i64 0, .int .i64 0, .int .i64 0, .int .i64 0]⟩ ∧ T.ty 40 = some ⟨.slice 74, 1, 24, [.nils]⟩ ∧ T.ty 41 = some ⟨.slice 4, 1, 24, [.nils]⟩ ∧ T.ty 59 = some ⟨.ptr 99, 1, 8, [.nilp]⟩ ∧ T.ty 63 = some ⟨.ptr 24, 1, 8, [.nilp]⟩ ∧ T.ty 65 = some ⟨.slice 3, 1, 24, [.nils]⟩ ∧ T.ty 73 = some ⟨.struct [(0, 1, false), (1, 1, false), (2, 1, false), (3, 1, false), (4, 1, false)] [], 5, 64, [.nils, .int .i64 0, .int .i64 0, .int .i64 0, .str []]⟩ ∧ T.ty 74 = some ⟨.struct [(0, 1, false), (1, 1, false), (2, 1, false), (3, 1, false), (4, 1, false)] [], 5, 64, [.nils, .int .i64 0, .int .i64 0, .int .i64 0, .str []]⟩ ∧ T.ty 75 = some ⟨.slice 41, 1, 24, [.nils]⟩ ∧ T.ty 84 = some ⟨.struct [(0, 1, false), (1, 1, false), (2, 1, false), (3, 1, false), (4, 1, false)] [], 5, 64, [.str [], .int .i64 0, .int .i64 0, .nils, .int .i64 0]⟩ ∧ T.ty 85 = some ⟨.struct [(0, 1, false), (1, 1, false), (2, 1, false), (3, 1, false), (4, 1, false)] [], 5, 64, [.str [], .int .i64 0, .int .i64 0, .nils, .int .i64 0]⟩ ∧ T.ty 88 = some ⟨.ptr 92, 1, 8, [.nilp]⟩ ∧ T.ty 89 = some ⟨.slice 94, 1, 24, [.nils]⟩ ∧ T.ty 91 = some ⟨.struct [(0, 1, false), (1, 1, false), (2, 1, false), (3, 1, false), (4, 2, true)] [], 6, 112, [.nils, .nils, .nils, .nils, .int .i64 0, .int .i64 0]⟩ ∧ T.ty 92 = some ⟨.struct [(0, 1, false), (1, 1, false), (2, 1, false), (3, 1, false), (4, 2, true)] [], 6, 112, [.nils, .nils, .nils, .nils, .int .i64 0, .int .i64 0]⟩ ∧ T.ty 93 = some ⟨.struct [(0, 1, false), (1, 1, false)] [.s, .i .i64], 2, 24, [.str [], .int .i64 0]⟩ ∧ T.ty 94 = some ⟨.struct [(0, 1, false), (1, 1, false)] [.s, .i .i64], 2, 24, [.str [], .int .i64 0]⟩ ∧ T.ty 98 = some ⟨.struct [(0, 1, false), (1, 1, false), (2, 1, false), (3, 1, false)] [], 4, 32, [.int .i64 0, .int .i64 0, .nilp, .nilp]⟩ ∧ T.ty 99 = some ⟨.struct [(0, 1, false), (1, 1, false), (2, 1, false), (3, 1, false)] [], 4, 32, [.int .i64 0, .int .i64 0, .nilp, .nilp]⟩ ∧ T.ty 109 = some ⟨.array 2 3, 2, 16, [.int .i64 0, .int .i64 0]⟩ ∧ T.ty 110 = some ⟨.ptr 85, 1, 8, [.nilp]⟩ ∧ T.ty 116 = some ⟨.slice 9, 1, 24, [.nils]⟩ ∧ T.ty 117 = some ⟨.array 17 9, 17, 272, List.replicate 17 (.str [])⟩ ∧ T.ty 118 = some ⟨.array 17 3, 17, 136, List.replicate 17 (.int .i64 0)⟩ ∧ T.ty 130 = some ⟨.array 24 5, 24, 24, List.replicate 24 (.int .u8 0)⟩ ∧ T.ty 131 = some ⟨.int .u64, 1, 8, [.int .u64 0]⟩ ∧ T.ty 134 = some ⟨.slice 5, 1, 24, [.nils]⟩ ∧ T.ty 139 = some ⟨.array 20 131, 20, 160, List.replicate 20 (.int .u64 0)⟩ ∧ T.ty 140 = some ⟨.int .u32, 1, 4, [.int .u32 0]⟩ ∧ T.ty 141 = some ⟨.array 65 5, 65, 65, []⟩ ∧ T.ty 142 = some ⟨.int .u64, 1, 8, [.int .u64 0]⟩ ∧ T.ty 147 = some ⟨.ptr 155, 1, 8, [.nilp]⟩ ∧ T.ty 157 = some ⟨.array 32 5, 32, 32, List.replicate 32 (.int .u8 0)⟩ ∧ T.ty 158 = some ⟨.array 64 5, 64, 64, List.replicate 64 (.int .u8 0)⟩ ∧ T.ty 160 = some ⟨.ptr 5, 1, 8, [.nilp]⟩ ∧ T.ty 161 = some ⟨.ptr 163, 1, 8, [.nilp]⟩ ∧ T.ty 162 = some ⟨.struct [(0, 1, false)] [.s], 1, 16, [.str []]⟩ ∧ T.ty 163 = some ⟨.struct [(0, 1, false)] [.s], 1, 16, [.str []]⟩ ∧ T.ty 166 = some ⟨.array 0 16, 0, 0, []⟩ := ⟨rfl, rfl, rfl, rfl, rfl, rfl, rfl, rfl, rfl, rfl, rfl, rfl, rfl, rfl, rfl, rfl, rfl, rfl, rfl, rfl, rfl, rfl, rfl, rfl, rfl, rfl, rfl, rfl, rfl, rfl, rfl, rfl, rfl, rfl, rfl, rfl, rfl, rfl, rfl, rfl, rfl, rfl, rfl, rfl, rfl, rfl, rfl, rfl, rfl, rfl, rfl, rfl, rfl, rfl, rfl⟩
theorem hmix : Tryd.prog.follows .mixedOrders = true := by kernel_rfl
end Go.Proofs.YtlbjffdaooadoaaDoor
