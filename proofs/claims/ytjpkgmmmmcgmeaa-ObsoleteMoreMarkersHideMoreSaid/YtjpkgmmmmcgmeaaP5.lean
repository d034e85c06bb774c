/- The law ObsoleteMoreMarkersHideMore returns true for every input, and each argument reads behind the call as it read before. Conditions: none. -/
import Derived.Test.YtjpkgmmmmcgmeaaT21
import Derived.Test.YtjpkgmmmmcgmeaaT19
import Derived.Test.YtjpkgmmmmcgmeaaRows
import Derived.Test.YtjpkgmmmmcgmeaaV5
set_option linter.all false
set_option maxRecDepth 100000
set_option maxHeartbeats 4000000
namespace Go.Proofs.Ytjpkgmmmmcgmeaa
open Go Go.Vc Go.RowKit
theorem obsoleteMoreMarkersHideMore_lifted (os : Os) (started : os.Started) (H : Type) (enc : TypeId × Value → H) : ReturnsInHanded {} Try.checked os 7 .any (Rows.obsoleteMoreMarkersHideMoreSpec.pre6 enc Try.prog Try.f7 Rows.obsoleteMoreMarkersHideMoreRow.domain false) (Rows.obsoleteMoreMarkersHideMoreSpec.post enc Try.prog Try.f7 false true false false) :=
  law_lifted (C := Try.checked) (s := Rows.obsoleteMoreMarkersHideMoreSpec) (k := 8) (f := 7) (fn := Try.f7) (g := lawHG) (tb := 4) own started (by kernel_rfl) Try.func7
    (ChangeSpec.witness6 (enc := enc) (C := Try.checked) false ⟨#[], #[.slice none 0 0, .slice none 0 0, .slice none 0 0], []⟩ 8 (by kernel_rfl) (by kernel_rfl) (by kernel_rfl) (by kernel_rfl) (by kernel_rfl)) laidOut (by kernel_rfl) rfl (by kernel_rfl)
    ⟨rfl, fun H ds h => by match ds, h with | [a, b, c], _ => exact ⟨rfl, rfl, rfl⟩⟩ (by kernel_rfl) lawMh_meets lawH_ok
/-- ObsoleteMoreMarkersHideMore. -/
theorem obsoleteMoreMarkersHideMore_holds : Rows.ObsoleteMoreMarkersHideMoreSaid :=
  OpenClaim.holds_of_wide 7 Try.f7 rfl rfl rfl rfl rfl rfl rfl ⟨rfl, rfl, rfl, rfl, rfl⟩ rfl rfl rfl rfl rfl (by kernel_rfl) Try.func7 (by kernel_rfl)
    (of_decide_eq_true (by kernel_rfl)) (by unfold Func.isWrapper; rw [if_neg (of_decide_eq_false (by kernel_rfl))]; exact ⟨rfl, rfl⟩)
    (fun os started H enc _ => obsoleteMoreMarkersHideMore_lifted os started H enc)
end Go.Proofs.Ytjpkgmmmmcgmeaa
