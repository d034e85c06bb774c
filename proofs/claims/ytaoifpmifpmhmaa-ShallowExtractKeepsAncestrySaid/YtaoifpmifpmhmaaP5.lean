/- The law ShallowExtractKeepsAncestry returns true for every input, and each argument reads behind the call as it read before. Conditions: none. -/
import Derived.Test.YtaoifpmifpmhmaaT23
import Derived.Test.YtaoifpmifpmhmaaRows
import Derived.Test.YtaoifpmifpmhmaaV4
set_option linter.all false
set_option maxRecDepth 100000
set_option maxHeartbeats 4000000
namespace Go.Proofs.Ytaoifpmifpmhmaa
open Go Go.Vc Go.RowKit
theorem shallowExtractKeepsAncestry_lifted (os : Os) (started : os.Started) (H : Type) (enc : TypeId × Value → H) : ReturnsInHanded {} Try.checked os 11 .any (Rows.shallowExtractKeepsAncestrySpec.pre6 enc Try.prog Try.f11 Rows.shallowExtractKeepsAncestryRow.domain false) (Rows.shallowExtractKeepsAncestrySpec.post enc Try.prog Try.f11 false true false false) :=
  law_lifted (C := Try.checked) (s := Rows.shallowExtractKeepsAncestrySpec) (k := 8) (f := 11) (fn := Try.f11) (g := lawSG) (tb := 4) own started (by kernel_rfl) Try.func11
    (ChangeSpec.witness6 (enc := enc) (C := Try.checked) false ⟨#[], #[.slice none 0 0, .slice none 0 0], []⟩ 8 (by kernel_rfl) (by kernel_rfl) (by kernel_rfl) (by kernel_rfl) (by kernel_rfl)) laidOut (by kernel_rfl) rfl (by kernel_rfl)
    ⟨rfl, fun H ds h => by match ds, h with | [a, b], _ => exact ⟨rfl, rfl, rfl⟩⟩ (by kernel_rfl) lawAnc_meets lawS_ok
/-- ShallowExtractKeepsAncestry. -/
theorem shallowExtractKeepsAncestry_holds : Rows.ShallowExtractKeepsAncestrySaid :=
  OpenClaim.holds_of_wide 11 Try.f11 rfl rfl rfl rfl rfl rfl rfl ⟨rfl, rfl, rfl, rfl, rfl⟩ rfl rfl rfl rfl rfl (by kernel_rfl) Try.func11 (by kernel_rfl)
    (of_decide_eq_true (by kernel_rfl)) (by unfold Func.isWrapper; rw [if_neg (of_decide_eq_false (by kernel_rfl))]; exact ⟨rfl, rfl⟩)
    (fun os started H enc _ => shallowExtractKeepsAncestry_lifted os started H enc)
end Go.Proofs.Ytaoifpmifpmhmaa
