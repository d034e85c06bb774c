/- The law ShallowDeepenAdds returns true for every input, and each argument reads behind the call as it read before. Conditions: none. -/
import Derived.Test.YtaoifpmifpmhmaaT17
import Derived.Test.YtaoifpmifpmhmaaRows
import Derived.Test.YtaoifpmifpmhmaaVc35
set_option linter.all false
set_option maxRecDepth 100000
set_option maxHeartbeats 4000000
namespace Go.Proofs.Ytaoifpmifpmhmaa
open Go Go.Vc Go.RowKit
theorem lawD_ok : LawOk Try.prog 8 [22, 24, 3, 3] lawDG := by
  have h1 : isSl Try.prog 22 40 = true := by kernel_rfl
  have h2 : isSl Try.prog 24 3 = true := by kernel_rfl
  have h3 : isI64 Try.prog 3 = true := by kernel_rfl
  refine lawOk_4 fun a b c d ha hb hc hd => ?_
  obtain ⟨xs, rfl, hl, hx⟩ := arg_sl ha h1
  obtain ⟨l, rfl, hs⟩ := wt_cms hx
  obtain ⟨ys, rfl, hm, hy⟩ := arg_sl hb h2
  obtain ⟨ns, rfl, _⟩ := wt_ints hy h3
  obtain ⟨n0, rfl, g0⟩ := arg_i64 hc h3
  obtain ⟨n1, rfl, g1⟩ := arg_i64 hd h3
  refine ⟨_, rfl, ?_⟩
  rw [dC_rows, dI_rows]
  rw [rows_len] at hl hm
  exact ⟨rfl, rfl, hl, hs, hm, g0, g1⟩

theorem shallowDeepenAdds_lifted (os : Os) (started : os.Started) (H : Type) (enc : TypeId × Value → H) : ReturnsInHanded {} Try.checked os 9 .any (Rows.shallowDeepenAddsSpec.pre6 enc Try.prog Try.f9 Rows.shallowDeepenAddsRow.domain false) (Rows.shallowDeepenAddsSpec.post enc Try.prog Try.f9 false true false false) :=
  law_lifted (C := Try.checked) (s := Rows.shallowDeepenAddsSpec) (k := 8) (f := 9) (fn := Try.f9) (g := lawDG) (tb := 4) own started (by kernel_rfl) Try.func9
    (ChangeSpec.witness6 (enc := enc) (C := Try.checked) false ⟨#[], #[.slice none 0 0, .slice none 0 0, .int .i64 0, .int .i64 0], []⟩ 8 (by kernel_rfl) (by kernel_rfl) (by kernel_rfl) (by kernel_rfl) (by kernel_rfl)) laidOut (by kernel_rfl) rfl (by kernel_rfl)
    ⟨rfl, fun H ds h => by match ds, h with | [a, b, c, d], _ => exact ⟨rfl, rfl, rfl⟩⟩ (by kernel_rfl) lawDeep_meets lawD_ok
/-- ShallowDeepenAdds. -/
theorem shallowDeepenAdds_holds : Rows.ShallowDeepenAddsSaid :=
  OpenClaim.holds_of_wide 9 Try.f9 rfl rfl rfl rfl rfl rfl rfl ⟨rfl, rfl, rfl, rfl, rfl⟩ rfl rfl rfl rfl rfl (by kernel_rfl) Try.func9 (by kernel_rfl)
    (of_decide_eq_true (by kernel_rfl)) (by unfold Func.isWrapper; rw [if_neg (of_decide_eq_false (by kernel_rfl))]; exact ⟨rfl, rfl⟩)
    (fun os started H enc _ => shallowDeepenAdds_lifted os started H enc)
end Go.Proofs.Ytaoifpmifpmhmaa
