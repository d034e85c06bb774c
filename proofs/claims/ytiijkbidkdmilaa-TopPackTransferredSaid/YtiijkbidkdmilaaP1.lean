/- The law TopPackTransferred returns true for every input, and each argument reads behind the call as it read before. Conditions: none. -/
import Derived.Test.YtiijkbidkdmilaaT66
import Derived.Test.YtiijkbidkdmilaaRows
import Derived.Test.YtiijkbidkdmilaaV5
set_option linter.all false
set_option maxRecDepth 100000
set_option maxHeartbeats 4000000
namespace Go.Proofs.Ytiijkbidkdmilaa
open Go Go.Vc Go.RowKit
theorem topPackTransferred_lifted (os : Os) (started : os.Started) (H : Type) (enc : TypeId × Value → H) : ReturnsInHanded {} Try.checked os 3 .any (Rows.topPackTransferredSpec.pre6 enc Try.prog Try.f3 Rows.topPackTransferredRow.domain false) (Rows.topPackTransferredSpec.post enc Try.prog Try.f3 false true false false) :=
  law_lifted (C := Try.checked) (s := Rows.topPackTransferredSpec) (k := 8) (f := 3) (fn := Try.f3) (g := lawTPG) (tb := 4) own started (by kernel_rfl) Try.func3
    (ChangeSpec.witness6 (enc := enc) (C := Try.checked) false ⟨#[], #[.agg #[.slice none 0 0], .slice none 0 0, .int .i64 0], []⟩ 8 (by kernel_rfl) (by kernel_rfl) (by kernel_rfl) (by kernel_rfl) (by kernel_rfl)) laidOut (by kernel_rfl) rfl (by kernel_rfl)
    ⟨rfl, fun H ds h => by match ds, h with | [a, b, c], _ => exact ⟨rfl, rfl, rfl⟩⟩ (by kernel_rfl) lawTP_meets lawTP_ok
/-- TopPackTransferred. -/
theorem topPackTransferred_holds : Rows.TopPackTransferredSaid :=
  OpenClaim.holds_of_wide 3 Try.f3 rfl rfl rfl rfl rfl rfl rfl ⟨rfl, rfl, rfl, rfl, rfl⟩ rfl rfl rfl rfl rfl (by kernel_rfl) Try.func3 (by kernel_rfl)
    (of_decide_eq_true (by kernel_rfl)) (by unfold Func.isWrapper; rw [if_neg (of_decide_eq_false (by kernel_rfl))]; exact ⟨rfl, rfl⟩)
    (fun os started H enc _ => topPackTransferred_lifted os started H enc)
end Go.Proofs.Ytiijkbidkdmilaa
