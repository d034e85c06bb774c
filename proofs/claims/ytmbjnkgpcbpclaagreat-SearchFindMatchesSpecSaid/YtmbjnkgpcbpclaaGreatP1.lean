/- The law SearchFindMatchesSpec returns true for every input, and each argument reads behind the call as it read before. Conditions: none. -/
import Derived.Test.YtmbjnkgpcbpclaaGreatT73
import Derived.Test.YtmbjnkgpcbpclaaGreatT74
import Derived.Test.YtmbjnkgpcbpclaaGreatRows
import Derived.Test.YtmbjnkgpcbpclaaGreatV5
import Derived.ProofKit
set_option linter.all false
set_option maxRecDepth 100000
set_option maxHeartbeats 4000000
namespace Go.Proofs.YtmbjnkgpcbpclaaGreat
open Go Go.Vc Go.RowKit
theorem searchFindMatchesSpec_lifted (os : Os) (started : os.Started) (H : Type) (enc : TypeId × Value → H) : ReturnsInHanded {} Tryz.checked os 3 .any (Rows.searchFindMatchesSpecSpec.pre6 enc Tryz.prog Tryz.f3 Rows.searchFindMatchesSpecRow.domain false) (Rows.searchFindMatchesSpecSpec.post enc Tryz.prog Tryz.f3 false true false false) :=
  law_lifted_vars (C := Tryz.checked) (s := Rows.searchFindMatchesSpecSpec) (k := 8) (f := 3) (fn := Tryz.f3) (g := lawSFG) (tb := 4) own started (by kernel_rfl) Tryz.func3
    (ChangeSpec.witness_shaped (enc := enc) (C := Tryz.checked) (os := os) (X := fun _ _ => True) false (World.laidAll Tryz.prog os []) #[.slice none 0 0, .agg #[.slice none 0 0]] 8 (World.laidAll_os _ _ _)
      (World.shaped_of_ZipB (by kernel_rfl) (by kernel_rfl)) (by kernel_rfl) (by kernel_rfl) (by kernel_rfl) trivial) laidOut (by kernel_rfl) rfl (by kernel_rfl)
    ⟨rfl, fun H ds h => by match ds, h with | [a, b], _ => exact ⟨rfl, rfl, rfl⟩⟩ (by kernel_rfl) lawSF_meets lawSF_ok globs_at
/-- SearchFindMatchesSpec. -/
theorem searchFindMatchesSpec_holds : Rows.SearchFindMatchesSpecSaid :=
  OpenClaim.holds_of_wide 3 Tryz.f3 rfl rfl rfl rfl rfl rfl rfl ⟨rfl, rfl, rfl, rfl, rfl⟩ rfl rfl rfl rfl rfl (by kernel_rfl) Tryz.func3 (by kernel_rfl)
    (of_decide_eq_true (by kernel_rfl)) (by unfold Func.isWrapper; rw [if_neg (of_decide_eq_false (by kernel_rfl))]; exact ⟨rfl, rfl⟩)
    (fun os started H enc _ => searchFindMatchesSpec_lifted os started H enc)
end Go.Proofs.YtmbjnkgpcbpclaaGreat
