/- The law SearchIndexedMatchesSpec returns true for every input, and each argument reads behind the call as it read before. Conditions: none. -/
import Derived.Test.YtmbjnkgpcbpclaaGreatT119
import Derived.Test.YtmbjnkgpcbpclaaGreatT90
import Derived.Test.YtmbjnkgpcbpclaaGreatRows
import Derived.Test.YtmbjnkgpcbpclaaGreatV5
import Derived.ProofKit
set_option linter.all false
set_option maxRecDepth 100000
set_option maxHeartbeats 4000000
namespace Go.Proofs.YtmbjnkgpcbpclaaGreat
open Go Go.Vc Go.RowKit
theorem searchIndexedMatchesSpec_lifted (os : Os) (started : os.Started) (H : Type) (enc : TypeId × Value → H) : ReturnsInHanded {} Tryz.checked os 8 .any (Rows.searchIndexedMatchesSpecSpec.pre6 enc Tryz.prog Tryz.f8 Rows.searchIndexedMatchesSpecRow.domain false) (Rows.searchIndexedMatchesSpecSpec.post enc Tryz.prog Tryz.f8 false true false false) :=
  Jt (C := Tryz.checked) (s := Rows.searchIndexedMatchesSpecSpec) (k := 8) (f := 8) (fn := Tryz.f8) (g := MF) (tb := 4) own started (by kernel_rfl) Tryz.func8
    (ChangeSpec.witness_shaped (enc := enc) (C := Tryz.checked) (os := os) (X := fun _ _ => True) false (World.laidAll Tryz.prog os []) #[.agg #[.slice none 0 0, .slice none 0 0], .slice none 0 0, .agg #[.slice none 0 0]] 8 (World.laidAll_os _ _ _)
      (World.shaped_of_ZipB (by kernel_rfl) (by kernel_rfl)) (by kernel_rfl) (by kernel_rfl) (by kernel_rfl) trivial) WY (by kernel_rfl) rfl (by kernel_rfl)
    ⟨rfl, fun H ds h => by match ds, h with | [a, b, c], _ => exact ⟨rfl, rfl, rfl⟩⟩ (by kernel_rfl) Ou UO Uy
/-- SearchIndexedMatchesSpec. -/
theorem searchIndexedMatchesSpec_holds : Rows.SearchIndexedMatchesSpecSaid :=
  OpenClaim.holds_of_wide 8 Tryz.f8 rfl rfl rfl rfl rfl rfl rfl ⟨rfl, rfl, rfl, rfl, rfl⟩ rfl rfl rfl rfl rfl (by kernel_rfl) Tryz.func8 (by kernel_rfl)
    (of_decide_eq_true (by kernel_rfl)) (by unfold Func.isWrapper; rw [if_neg (of_decide_eq_false (by kernel_rfl))]; exact ⟨rfl, rfl⟩)
    (fun os started H enc _ => searchIndexedMatchesSpec_lifted os started H enc)
end Go.Proofs.YtmbjnkgpcbpclaaGreat
