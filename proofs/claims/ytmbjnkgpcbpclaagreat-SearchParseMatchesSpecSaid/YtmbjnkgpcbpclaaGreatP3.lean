/- The law SearchParseMatchesSpec returns true for every input, and each argument reads behind the call as it read before. Conditions: none. -/
import Derived.Test.YtmbjnkgpcbpclaaGreatT102
import Derived.Test.YtmbjnkgpcbpclaaGreatT90
import Derived.Test.YtmbjnkgpcbpclaaGreatRows
import Derived.Test.YtmbjnkgpcbpclaaGreatV5
import Derived.ProofKit
set_option linter.all false
set_option maxRecDepth 100000
set_option maxHeartbeats 4000000
namespace Go.Proofs.YtmbjnkgpcbpclaaGreat
open Go Go.Vc Go.RowKit
theorem searchParseMatchesSpec_lifted (os : Os) (started : os.Started) (H : Type) (enc : TypeId × Value → H) : ReturnsInHanded {} Tryz.checked os 4 .any (Rows.searchParseMatchesSpecSpec.pre6 enc Tryz.prog Tryz.f4 Rows.searchParseMatchesSpecRow.domain false) (Rows.searchParseMatchesSpecSpec.post enc Tryz.prog Tryz.f4 false true false false) :=
  law_lifted_vars (C := Tryz.checked) (s := Rows.searchParseMatchesSpecSpec) (k := 8) (f := 4) (fn := Tryz.f4) (g := lawSPG) (tb := 4) own started (by kernel_rfl) Tryz.func4
    (ChangeSpec.witness_shaped (enc := enc) (C := Tryz.checked) (os := os) (X := fun _ _ => True) false (World.laidAll Tryz.prog os []) #[.string ⟨#[]⟩] 8 (World.laidAll_os _ _ _)
      (World.shaped_of_ZipB (by kernel_rfl) (by kernel_rfl)) (by kernel_rfl) (by kernel_rfl) (by kernel_rfl) trivial) laidOut (by kernel_rfl) rfl (by kernel_rfl)
    ⟨rfl, fun H ds h => by match ds, h with | [a], _ => exact ⟨rfl, rfl, rfl⟩⟩ (by kernel_rfl) lawSP_meets lawSP_ok globs_at
/-- SearchParseMatchesSpec. -/
theorem searchParseMatchesSpec_holds : Rows.SearchParseMatchesSpecSaid :=
  OpenClaim.holds_of_wide 4 Tryz.f4 rfl rfl rfl rfl rfl rfl rfl ⟨rfl, rfl, rfl, rfl, rfl⟩ rfl rfl rfl rfl rfl (by kernel_rfl) Tryz.func4 (by kernel_rfl)
    (of_decide_eq_true (by kernel_rfl)) (by unfold Func.isWrapper; rw [if_neg (of_decide_eq_false (by kernel_rfl))]; exact ⟨rfl, rfl⟩)
    (fun os started H enc _ => searchParseMatchesSpec_lifted os started H enc)
end Go.Proofs.YtmbjnkgpcbpclaaGreat
