/- The law PartialFetchMatchesSpec returns true for every input, and each argument reads behind the call as it read before. Conditions: none. -/
import Derived.Test.YtgnahopdiljikaaT36
import Derived.Test.YtgnahopdiljikaaT30
import Derived.Test.YtgnahopdiljikaaRows
import Derived.Test.YtgnahopdiljikaaV5
set_option linter.all false
set_option maxRecDepth 100000
set_option maxHeartbeats 4000000
namespace Go.Proofs.Ytgnahopdiljikaa
open Go Go.Vc Go.RowKit
theorem partialFetchMatchesSpec_lifted (os : Os) (started : os.Started) (H : Type) (enc : TypeId × Value → H) : ReturnsInHanded {} Try.checked os 5 .any (Rows.partialFetchMatchesSpecSpec.pre6 enc Try.prog Try.f5 Rows.partialFetchMatchesSpecRow.domain false) (Rows.partialFetchMatchesSpecSpec.post enc Try.prog Try.f5 false true false false) :=
  law_lifted (C := Try.checked) (s := Rows.partialFetchMatchesSpecSpec) (k := 8) (f := 5) (fn := Try.f5) (g := lawTG) (tb := 4) own started (by kernel_rfl) Try.func5
    (ChangeSpec.witness6 (enc := enc) (C := Try.checked) false ⟨#[], #[.agg #[.slice none 0 0], .slice none 0 0, .agg #[.slice none 0 0], .slice none 0 0], []⟩ 8 (by kernel_rfl) (by kernel_rfl) (by kernel_rfl) (by kernel_rfl) (by kernel_rfl)) laidOut (by kernel_rfl) rfl (by kernel_rfl)
    ⟨rfl, fun H ds h => by match ds, h with | [a, b, c, d], _ => exact ⟨rfl, rfl, rfl⟩⟩ (by kernel_rfl) lawFe_meets lawT_ok
/-- PartialFetchMatchesSpec. -/
theorem partialFetchMatchesSpec_holds : Rows.PartialFetchMatchesSpecSaid :=
  OpenClaim.holds_of_wide 5 Try.f5 rfl rfl rfl rfl rfl rfl rfl ⟨rfl, rfl, rfl, rfl, rfl⟩ rfl rfl rfl rfl rfl (by kernel_rfl) Try.func5 (by kernel_rfl)
    (of_decide_eq_true (by kernel_rfl)) (by unfold Func.isWrapper; rw [if_neg (of_decide_eq_false (by kernel_rfl))]; exact ⟨rfl, rfl⟩)
    (fun os started H enc _ => partialFetchMatchesSpec_lifted os started H enc)
end Go.Proofs.Ytgnahopdiljikaa
