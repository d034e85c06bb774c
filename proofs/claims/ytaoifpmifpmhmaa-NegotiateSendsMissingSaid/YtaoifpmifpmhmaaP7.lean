/- The law NegotiateSendsMissing returns true for every input, and each argument reads behind the call as it read before. Conditions: none. -/
import Derived.Test.YtaoifpmifpmhmaaT47
import Derived.Test.YtaoifpmifpmhmaaRows
import Derived.Test.YtaoifpmifpmhmaaV4
set_option linter.all false
set_option maxRecDepth 100000
set_option maxHeartbeats 4000000
namespace Go.Proofs.Ytaoifpmifpmhmaa
open Go Go.Vc Go.RowKit
theorem negotiateSendsMissing_lifted (os : Os) (started : os.Started) (H : Type) (enc : TypeId × Value → H) : ReturnsInHanded {} Try.checked os 4 .any (Rows.negotiateSendsMissingSpec.pre6 enc Try.prog Try.f4 Rows.negotiateSendsMissingRow.domain false) (Rows.negotiateSendsMissingSpec.post enc Try.prog Try.f4 false true false false) :=
  law_lifted (C := Try.checked) (s := Rows.negotiateSendsMissingSpec) (k := 8) (f := 4) (fn := Try.f4) (g := lawNG) (tb := 4) own started (by kernel_rfl) Try.func4
    (ChangeSpec.witness6 (enc := enc) (C := Try.checked) false ⟨#[], #[.slice none 0 0, .slice none 0 0, .slice none 0 0, .slice none 0 0], []⟩ 8 (by kernel_rfl) (by kernel_rfl) (by kernel_rfl) (by kernel_rfl) (by kernel_rfl)) laidOut (by kernel_rfl) rfl (by kernel_rfl)
    ⟨rfl, fun H ds h => by match ds, h with | [a, b, c, d], _ => exact ⟨rfl, rfl, rfl⟩⟩ (by kernel_rfl) lawSends_meets lawN_ok
/-- NegotiateSendsMissing. -/
theorem negotiateSendsMissing_holds : Rows.NegotiateSendsMissingSaid :=
  OpenClaim.holds_of_wide 4 Try.f4 rfl rfl rfl rfl rfl rfl rfl ⟨rfl, rfl, rfl, rfl, rfl⟩ rfl rfl rfl rfl rfl (by kernel_rfl) Try.func4 (by kernel_rfl)
    (of_decide_eq_true (by kernel_rfl)) (by unfold Func.isWrapper; rw [if_neg (of_decide_eq_false (by kernel_rfl))]; exact ⟨rfl, rfl⟩)
    (fun os started H enc _ => negotiateSendsMissing_lifted os started H enc)
end Go.Proofs.Ytaoifpmifpmhmaa
