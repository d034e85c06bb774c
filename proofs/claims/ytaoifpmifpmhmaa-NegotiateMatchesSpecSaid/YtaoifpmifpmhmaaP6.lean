/- The law NegotiateMatchesSpec returns true for every input, and each argument reads behind the call as it read before. Conditions: none. -/
import Derived.Test.YtaoifpmifpmhmaaT47
import Derived.Test.YtaoifpmifpmhmaaRows
import Derived.Test.YtaoifpmifpmhmaaV4
set_option linter.all false
set_option maxRecDepth 100000
set_option maxHeartbeats 4000000
namespace Go.Proofs.Ytaoifpmifpmhmaa
open Go Go.Vc Go.RowKit
theorem negotiateMatchesSpec_lifted (os : Os) (started : os.Started) (H : Type) (enc : TypeId × Value → H) : ReturnsInHanded {} Try.checked os 3 .any (Rows.negotiateMatchesSpecSpec.pre6 enc Try.prog Try.f3 Rows.negotiateMatchesSpecRow.domain false) (Rows.negotiateMatchesSpecSpec.post enc Try.prog Try.f3 false true false false) :=
  law_lifted (C := Try.checked) (s := Rows.negotiateMatchesSpecSpec) (k := 8) (f := 3) (fn := Try.f3) (g := lawNG) (tb := 4) own started (by kernel_rfl) Try.func3
    (ChangeSpec.witness6 (enc := enc) (C := Try.checked) false ⟨#[], #[.slice none 0 0, .slice none 0 0, .slice none 0 0, .slice none 0 0], []⟩ 8 (by kernel_rfl) (by kernel_rfl) (by kernel_rfl) (by kernel_rfl) (by kernel_rfl)) laidOut (by kernel_rfl) rfl (by kernel_rfl)
    ⟨rfl, fun H ds h => by match ds, h with | [a, b, c, d], _ => exact ⟨rfl, rfl, rfl⟩⟩ (by kernel_rfl) lawNeg_meets lawN_ok
/-- NegotiateMatchesSpec. -/
theorem negotiateMatchesSpec_holds : Rows.NegotiateMatchesSpecSaid :=
  OpenClaim.holds_of_wide 3 Try.f3 rfl rfl rfl rfl rfl rfl rfl ⟨rfl, rfl, rfl, rfl, rfl⟩ rfl rfl rfl rfl rfl (by kernel_rfl) Try.func3 (by kernel_rfl)
    (of_decide_eq_true (by kernel_rfl)) (by unfold Func.isWrapper; rw [if_neg (of_decide_eq_false (by kernel_rfl))]; exact ⟨rfl, rfl⟩)
    (fun os started H enc _ => negotiateMatchesSpec_lifted os started H enc)
end Go.Proofs.Ytaoifpmifpmhmaa
