/- The law PartialFetchOrderIrrelevant returns true for every input, and each argument reads behind the call as it read before. Conditions: none. -/
import Derived.Test.YtgnahopdiljikaaT36
import Derived.Test.YtgnahopdiljikaaT32
import Derived.Test.YtgnahopdiljikaaRows
import Derived.Test.YtgnahopdiljikaaV5
set_option linter.all false
set_option maxRecDepth 100000
set_option maxHeartbeats 4000000
namespace Go.Proofs.Ytgnahopdiljikaa
open Go Go.Vc Go.RowKit
theorem partialFetchOrderIrrelevant_lifted (os : Os) (started : os.Started) (H : Type) (enc : TypeId × Value → H) : ReturnsInHanded {} Try.checked os 7 .any (Rows.partialFetchOrderIrrelevantSpec.pre6 enc Try.prog Try.f7 Rows.partialFetchOrderIrrelevantRow.domain false) (Rows.partialFetchOrderIrrelevantSpec.post enc Try.prog Try.f7 false true false false) :=
  law_lifted (C := Try.checked) (s := Rows.partialFetchOrderIrrelevantSpec) (k := 8) (f := 7) (fn := Try.f7) (g := lawFWG) (tb := 4) own started (by kernel_rfl) Try.func7
    (ChangeSpec.witness6 (enc := enc) (C := Try.checked) false ⟨#[], #[.agg #[.slice none 0 0], .int .i64 0, .slice none 0 0], []⟩ 8 (by kernel_rfl) (by kernel_rfl) (by kernel_rfl) (by kernel_rfl) (by kernel_rfl)) laidOut (by kernel_rfl) rfl (by kernel_rfl)
    ⟨rfl, fun H ds h => by match ds, h with | [a, b, c], _ => exact ⟨rfl, rfl, rfl⟩⟩ (by kernel_rfl) lawOr_meets lawFW_ok
/-- PartialFetchOrderIrrelevant. -/
theorem partialFetchOrderIrrelevant_holds : Rows.PartialFetchOrderIrrelevantSaid :=
  OpenClaim.holds_of_wide 7 Try.f7 rfl rfl rfl rfl rfl rfl rfl ⟨rfl, rfl, rfl, rfl, rfl⟩ rfl rfl rfl rfl rfl (by kernel_rfl) Try.func7 (by kernel_rfl)
    (of_decide_eq_true (by kernel_rfl)) (by unfold Func.isWrapper; rw [if_neg (of_decide_eq_false (by kernel_rfl))]; exact ⟨rfl, rfl⟩)
    (fun os started H enc _ => partialFetchOrderIrrelevant_lifted os started H enc)
end Go.Proofs.Ytgnahopdiljikaa
