/- The law SearchRoundTrip returns true for every input, and each argument reads behind the call as it read before. Conditions: none. -/
import Derived.Test.YtmbjnkgpcbpclaaGreatT78
import Derived.Test.YtmbjnkgpcbpclaaGreatT90
import Derived.Test.YtmbjnkgpcbpclaaGreatRows
import Derived.Test.YtmbjnkgpcbpclaaGreatV5
import Derived.ProofKit
set_option linter.all false
set_option maxRecDepth 100000
set_option maxHeartbeats 4000000
namespace Go.Proofs.YtmbjnkgpcbpclaaGreat
open Go Go.Vc Go.RowKit
theorem searchRoundTrip_lifted (os : Os) (started : os.Started) (H : Type) (enc : TypeId × Value → H) : ReturnsInHanded {} Tryz.checked os 5 .any (Rows.searchRoundTripSpec.pre6 enc Tryz.prog Tryz.f5 Rows.searchRoundTripRow.domain false) (Rows.searchRoundTripSpec.post enc Tryz.prog Tryz.f5 false true false false) :=
  law_lifted_vars (C := Tryz.checked) (s := Rows.searchRoundTripSpec) (k := 8) (f := 5) (fn := Tryz.f5) (g := lawRTG) (tb := 4) own started (by kernel_rfl) Tryz.func5
    (ChangeSpec.witness_shaped (enc := enc) (C := Tryz.checked) (os := os) (X := fun _ _ => True) false (World.laidAll Tryz.prog os []) #[.agg #[.slice none 0 0]] 8 (World.laidAll_os _ _ _)
      (World.shaped_of_ZipB (by kernel_rfl) (by kernel_rfl)) (by kernel_rfl) (by kernel_rfl) (by kernel_rfl) trivial) laidOut (by kernel_rfl) rfl (by kernel_rfl)
    ⟨rfl, fun H ds h => by match ds, h with | [a], _ => exact ⟨rfl, rfl, rfl⟩⟩ (by kernel_rfl) lawRT_meets lawRT_ok globs_at
/-- SearchRoundTrip. -/
theorem searchRoundTrip_holds : Rows.SearchRoundTripSaid :=
  OpenClaim.holds_of_wide 5 Tryz.f5 rfl rfl rfl rfl rfl rfl rfl ⟨rfl, rfl, rfl, rfl, rfl⟩ rfl rfl rfl rfl rfl (by kernel_rfl) Tryz.func5 (by kernel_rfl)
    (of_decide_eq_true (by kernel_rfl)) (by unfold Func.isWrapper; rw [if_neg (of_decide_eq_false (by kernel_rfl))]; exact ⟨rfl, rfl⟩)
    (fun os started H enc _ => searchRoundTrip_lifted os started H enc)
end Go.Proofs.YtmbjnkgpcbpclaaGreat
