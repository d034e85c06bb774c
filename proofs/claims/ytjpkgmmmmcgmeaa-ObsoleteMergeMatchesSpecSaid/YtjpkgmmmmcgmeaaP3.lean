/- The law ObsoleteMergeMatchesSpec returns true for every input, and each argument reads behind the call as it read before. Conditions: none. -/
import Derived.Test.YtjpkgmmmmcgmeaaT21
import Derived.Test.YtjpkgmmmmcgmeaaT17
import Derived.Test.YtjpkgmmmmcgmeaaRows
import Derived.Test.YtjpkgmmmmcgmeaaV5
set_option linter.all false
set_option maxRecDepth 100000
set_option maxHeartbeats 4000000
namespace Go.Proofs.Ytjpkgmmmmcgmeaa
open Go Go.Vc Go.RowKit
theorem obsoleteMergeMatchesSpec_lifted (os : Os) (started : os.Started) (H : Type) (enc : TypeId × Value → H) : ReturnsInHanded {} Try.checked os 3 .any (Rows.obsoleteMergeMatchesSpecSpec.pre6 enc Try.prog Try.f3 Rows.obsoleteMergeMatchesSpecRow.domain false) (Rows.obsoleteMergeMatchesSpecSpec.post enc Try.prog Try.f3 false true false false) :=
  law_lifted (C := Try.checked) (s := Rows.obsoleteMergeMatchesSpecSpec) (k := 8) (f := 3) (fn := Try.f3) (g := lawMMG) (tb := 4) own started (by kernel_rfl) Try.func3
    (ChangeSpec.witness6 (enc := enc) (C := Try.checked) false ⟨#[], #[.slice none 0 0, .slice none 0 0], []⟩ 8 (by kernel_rfl) (by kernel_rfl) (by kernel_rfl) (by kernel_rfl) (by kernel_rfl)) laidOut (by kernel_rfl) rfl (by kernel_rfl)
    ⟨rfl, fun H ds h => by match ds, h with | [a, b], _ => exact ⟨rfl, rfl, rfl⟩⟩ (by kernel_rfl) lawMm_meets lawMM_ok
/-- ObsoleteMergeMatchesSpec. -/
theorem obsoleteMergeMatchesSpec_holds : Rows.ObsoleteMergeMatchesSpecSaid :=
  OpenClaim.holds_of_wide 3 Try.f3 rfl rfl rfl rfl rfl rfl rfl ⟨rfl, rfl, rfl, rfl, rfl⟩ rfl rfl rfl rfl rfl (by kernel_rfl) Try.func3 (by kernel_rfl)
    (of_decide_eq_true (by kernel_rfl)) (by unfold Func.isWrapper; rw [if_neg (of_decide_eq_false (by kernel_rfl))]; exact ⟨rfl, rfl⟩)
    (fun os started H enc _ => obsoleteMergeMatchesSpec_lifted os started H enc)
end Go.Proofs.Ytjpkgmmmmcgmeaa
