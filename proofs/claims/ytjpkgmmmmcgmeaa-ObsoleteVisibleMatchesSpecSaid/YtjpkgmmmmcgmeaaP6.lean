/- The law ObsoleteVisibleMatchesSpec returns true for every input, and each argument reads behind the call as it read before. Conditions: none. -/
import Derived.Test.YtjpkgmmmmcgmeaaT21
import Derived.Test.YtjpkgmmmmcgmeaaT20
import Derived.Test.YtjpkgmmmmcgmeaaRows
import Derived.Test.YtjpkgmmmmcgmeaaV5
set_option linter.all false
set_option maxRecDepth 100000
set_option maxHeartbeats 4000000
namespace Go.Proofs.Ytjpkgmmmmcgmeaa
open Go Go.Vc Go.RowKit
theorem obsoleteVisibleMatchesSpec_lifted (os : Os) (started : os.Started) (H : Type) (enc : TypeId × Value → H) : ReturnsInHanded {} Try.checked os 8 .any (Rows.obsoleteVisibleMatchesSpecSpec.pre6 enc Try.prog Try.f8 Rows.obsoleteVisibleMatchesSpecRow.domain false) (Rows.obsoleteVisibleMatchesSpecSpec.post enc Try.prog Try.f8 false true false false) :=
  law_lifted (C := Try.checked) (s := Rows.obsoleteVisibleMatchesSpecSpec) (k := 8) (f := 8) (fn := Try.f8) (g := lawVG) (tb := 4) own started (by kernel_rfl) Try.func8
    (ChangeSpec.witness6 (enc := enc) (C := Try.checked) false ⟨#[], #[.slice none 0 0, .slice none 0 0, .slice none 0 0], []⟩ 8 (by kernel_rfl) (by kernel_rfl) (by kernel_rfl) (by kernel_rfl) (by kernel_rfl)) laidOut (by kernel_rfl) rfl (by kernel_rfl)
    ⟨rfl, fun H ds h => by match ds, h with | [a, b, c], _ => exact ⟨rfl, rfl, rfl⟩⟩ (by kernel_rfl) lawVi_meets lawV_ok
/-- ObsoleteVisibleMatchesSpec. -/
theorem obsoleteVisibleMatchesSpec_holds : Rows.ObsoleteVisibleMatchesSpecSaid :=
  OpenClaim.holds_of_wide 8 Try.f8 rfl rfl rfl rfl rfl rfl rfl ⟨rfl, rfl, rfl, rfl, rfl⟩ rfl rfl rfl rfl rfl (by kernel_rfl) Try.func8 (by kernel_rfl)
    (of_decide_eq_true (by kernel_rfl)) (by unfold Func.isWrapper; rw [if_neg (of_decide_eq_false (by kernel_rfl))]; exact ⟨rfl, rfl⟩)
    (fun os started H enc _ => obsoleteVisibleMatchesSpec_lifted os started H enc)
end Go.Proofs.Ytjpkgmmmmcgmeaa
