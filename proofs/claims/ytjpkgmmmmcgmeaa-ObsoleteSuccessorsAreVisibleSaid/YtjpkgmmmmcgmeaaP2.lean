/- The law ObsoleteSuccessorsAreVisible returns true for every input, and each argument reads behind the call as it read before. Conditions: none. -/
import Derived.Test.YtjpkgmmmmcgmeaaT21
import Derived.Test.YtjpkgmmmmcgmeaaT16
import Derived.Test.YtjpkgmmmmcgmeaaRows
import Derived.Test.YtjpkgmmmmcgmeaaV5
set_option linter.all false
set_option maxRecDepth 100000
set_option maxHeartbeats 4000000
namespace Go.Proofs.Ytjpkgmmmmcgmeaa
open Go Go.Vc Go.RowKit
theorem obsoleteSuccessorsAreVisible_lifted (os : Os) (started : os.Started) (H : Type) (enc : TypeId × Value → H) : ReturnsInHanded {} Try.checked os 6 .any (Rows.obsoleteSuccessorsAreVisibleSpec.pre6 enc Try.prog Try.f6 Rows.obsoleteSuccessorsAreVisibleRow.domain false) (Rows.obsoleteSuccessorsAreVisibleSpec.post enc Try.prog Try.f6 false true false false) :=
  law_lifted (C := Try.checked) (s := Rows.obsoleteSuccessorsAreVisibleSpec) (k := 8) (f := 6) (fn := Try.f6) (g := lawLNG) (tb := 4) own started (by kernel_rfl) Try.func6
    (ChangeSpec.witness6 (enc := enc) (C := Try.checked) false ⟨#[], #[.slice none 0 0, .int .i64 0], []⟩ 8 (by kernel_rfl) (by kernel_rfl) (by kernel_rfl) (by kernel_rfl) (by kernel_rfl)) laidOut (by kernel_rfl) rfl (by kernel_rfl)
    ⟨rfl, fun H ds h => by match ds, h with | [a, b], _ => exact ⟨rfl, rfl, rfl⟩⟩ (by kernel_rfl) lawSv_meets lawLN_ok
/-- ObsoleteSuccessorsAreVisible. -/
theorem obsoleteSuccessorsAreVisible_holds : Rows.ObsoleteSuccessorsAreVisibleSaid :=
  OpenClaim.holds_of_wide 6 Try.f6 rfl rfl rfl rfl rfl rfl rfl ⟨rfl, rfl, rfl, rfl, rfl⟩ rfl rfl rfl rfl rfl (by kernel_rfl) Try.func6 (by kernel_rfl)
    (of_decide_eq_true (by kernel_rfl)) (by unfold Func.isWrapper; rw [if_neg (of_decide_eq_false (by kernel_rfl))]; exact ⟨rfl, rfl⟩)
    (fun os started H enc _ => obsoleteSuccessorsAreVisible_lifted os started H enc)
end Go.Proofs.Ytjpkgmmmmcgmeaa
