/- The law ObsoleteSuccessorsMatchesSpec returns true for every input, and each argument reads behind the call as it read before. Conditions: none. -/
import Derived.Test.YtjpkgmmmmcgmeaaT21
import Derived.Test.YtjpkgmmmmcgmeaaT15
import Derived.Test.YtjpkgmmmmcgmeaaRows
import Derived.Test.YtjpkgmmmmcgmeaaV5
set_option linter.all false
set_option maxRecDepth 100000
set_option maxHeartbeats 4000000
namespace Go.Proofs.Ytjpkgmmmmcgmeaa
open Go Go.Vc Go.RowKit
theorem obsoleteSuccessorsMatchesSpec_lifted (os : Os) (started : os.Started) (H : Type) (enc : TypeId × Value → H) : ReturnsInHanded {} Try.checked os 5 .any (Rows.obsoleteSuccessorsMatchesSpecSpec.pre6 enc Try.prog Try.f5 Rows.obsoleteSuccessorsMatchesSpecRow.domain false) (Rows.obsoleteSuccessorsMatchesSpecSpec.post enc Try.prog Try.f5 false true false false) :=
  law_lifted (C := Try.checked) (s := Rows.obsoleteSuccessorsMatchesSpecSpec) (k := 8) (f := 5) (fn := Try.f5) (g := lawLNG) (tb := 4) own started (by kernel_rfl) Try.func5
    (ChangeSpec.witness6 (enc := enc) (C := Try.checked) false ⟨#[], #[.slice none 0 0, .int .i64 0], []⟩ 8 (by kernel_rfl) (by kernel_rfl) (by kernel_rfl) (by kernel_rfl) (by kernel_rfl)) laidOut (by kernel_rfl) rfl (by kernel_rfl)
    ⟨rfl, fun H ds h => by match ds, h with | [a, b], _ => exact ⟨rfl, rfl, rfl⟩⟩ (by kernel_rfl) lawSu_meets lawLN_ok
/-- ObsoleteSuccessorsMatchesSpec. -/
theorem obsoleteSuccessorsMatchesSpec_holds : Rows.ObsoleteSuccessorsMatchesSpecSaid :=
  OpenClaim.holds_of_wide 5 Try.f5 rfl rfl rfl rfl rfl rfl rfl ⟨rfl, rfl, rfl, rfl, rfl⟩ rfl rfl rfl rfl rfl (by kernel_rfl) Try.func5 (by kernel_rfl)
    (of_decide_eq_true (by kernel_rfl)) (by unfold Func.isWrapper; rw [if_neg (of_decide_eq_false (by kernel_rfl))]; exact ⟨rfl, rfl⟩)
    (fun os started H enc _ => obsoleteSuccessorsMatchesSpec_lifted os started H enc)
end Go.Proofs.Ytjpkgmmmmcgmeaa
