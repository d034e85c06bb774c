/- The law TrigramIndexMatchesSpec returns true for every input, and each argument reads behind the call as it read before. Conditions: none. -/
import Derived.Test.YtjdhadbnmghdgaaT36
import Derived.Test.YtjdhadbnmghdgaaT30
import Derived.Test.YtjdhadbnmghdgaaRows
import Derived.Test.YtjdhadbnmghdgaaV5
set_option linter.all false
set_option maxRecDepth 100000
set_option maxHeartbeats 4000000
namespace Go.Proofs.Ytjdhadbnmghdgaa
open Go Go.Vc Go.RowKit
theorem trigramIndexMatchesSpec_lifted (os : Os) (started : os.Started) (H : Type) (enc : TypeId × Value → H) : ReturnsInHanded {} Try.checked os 3 .any (Rows.trigramIndexMatchesSpecSpec.pre6 enc Try.prog Try.f3 Rows.trigramIndexMatchesSpecRow.domain false) (Rows.trigramIndexMatchesSpecSpec.post enc Try.prog Try.f3 false true false false) :=
  law_lifted (C := Try.checked) (s := Rows.trigramIndexMatchesSpecSpec) (k := 8) (f := 3) (fn := Try.f3) (g := lawTG) (tb := 4) own started (by kernel_rfl) Try.func3
    (ChangeSpec.witness6 (enc := enc) (C := Try.checked) false ⟨#[], #[.slice none 0 0], []⟩ 8 (by kernel_rfl) (by kernel_rfl) (by kernel_rfl) (by kernel_rfl) (by kernel_rfl)) laidOut (by kernel_rfl) rfl (by kernel_rfl)
    ⟨rfl, fun H ds h => by match ds, h with | [a], _ => exact ⟨rfl, rfl, rfl⟩⟩ (by kernel_rfl) lawIx_meets lawT_ok
/-- TrigramIndexMatchesSpec. -/
theorem trigramIndexMatchesSpec_holds : Rows.TrigramIndexMatchesSpecSaid :=
  OpenClaim.holds_of_wide 3 Try.f3 rfl rfl rfl rfl rfl rfl rfl ⟨rfl, rfl, rfl, rfl, rfl⟩ rfl rfl rfl rfl rfl (by kernel_rfl) Try.func3 (by kernel_rfl)
    (of_decide_eq_true (by kernel_rfl)) (by unfold Func.isWrapper; rw [if_neg (of_decide_eq_false (by kernel_rfl))]; exact ⟨rfl, rfl⟩)
    (fun os started H enc _ => trigramIndexMatchesSpec_lifted os started H enc)
end Go.Proofs.Ytjdhadbnmghdgaa
