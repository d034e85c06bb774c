/- The law TrigramAddMatchesSpec returns true for every input, and each argument reads behind the call as it read before. Conditions: none. -/
import Derived.Test.YtjdhadbnmghdgaaT36
import Derived.Test.YtjdhadbnmghdgaaT33
import Derived.Test.YtjdhadbnmghdgaaRows
import Derived.Test.YtjdhadbnmghdgaaV5
set_option linter.all false
set_option maxRecDepth 100000
set_option maxHeartbeats 4000000
namespace Go.Proofs.Ytjdhadbnmghdgaa
open Go Go.Vc Go.RowKit
theorem trigramAddMatchesSpec_lifted (os : Os) (started : os.Started) (H : Type) (enc : TypeId × Value → H) : ReturnsInHanded {} Try.checked os 7 .any (Rows.trigramAddMatchesSpecSpec.pre6 enc Try.prog Try.f7 Rows.trigramAddMatchesSpecRow.domain false) (Rows.trigramAddMatchesSpecSpec.post enc Try.prog Try.f7 false true false false) :=
  law_lifted (C := Try.checked) (s := Rows.trigramAddMatchesSpecSpec) (k := 8) (f := 7) (fn := Try.f7) (g := lawXNSG) (tb := 4) own started (by kernel_rfl) Try.func7
    (ChangeSpec.witness6 (enc := enc) (C := Try.checked) false ⟨#[], #[.agg #[.slice none 0 0, .slice none 0 0], .int .i64 0, .string ⟨#[]⟩], []⟩ 8 (by kernel_rfl) (by kernel_rfl) (by kernel_rfl) (by kernel_rfl) (by kernel_rfl)) laidOut (by kernel_rfl) rfl (by kernel_rfl)
    ⟨rfl, fun H ds h => by match ds, h with | [a, b, c], _ => exact ⟨rfl, rfl, rfl⟩⟩ (by kernel_rfl) lawAd_meets lawXNS_ok
/-- TrigramAddMatchesSpec. -/
theorem trigramAddMatchesSpec_holds : Rows.TrigramAddMatchesSpecSaid :=
  OpenClaim.holds_of_wide 7 Try.f7 rfl rfl rfl rfl rfl rfl rfl ⟨rfl, rfl, rfl, rfl, rfl⟩ rfl rfl rfl rfl rfl (by kernel_rfl) Try.func7 (by kernel_rfl)
    (of_decide_eq_true (by kernel_rfl)) (by unfold Func.isWrapper; rw [if_neg (of_decide_eq_false (by kernel_rfl))]; exact ⟨rfl, rfl⟩)
    (fun os started H enc _ => trigramAddMatchesSpec_lifted os started H enc)
end Go.Proofs.Ytjdhadbnmghdgaa
