/- The law SearchComplement returns true for every input, and each argument reads behind the call as it read before. Conditions: none. -/
import Derived.Test.YtmbjnkgpcbpclaaGreatT115
import Derived.Test.YtmbjnkgpcbpclaaGreatT90
import Derived.Test.YtmbjnkgpcbpclaaGreatRows
import Derived.Test.YtmbjnkgpcbpclaaGreatV5
import Derived.ProofKit
set_option linter.all false
set_option maxRecDepth 100000
set_option maxHeartbeats 4000000
namespace Go.Proofs.YtmbjnkgpcbpclaaGreat
open Go Go.Vc Go.RowKit
theorem searchComplement_lifted (os : Os) (started : os.Started) (H : Type) (enc : TypeId × Value → H) : ReturnsInHanded {} Tryz.checked os 7 .any (Rows.searchComplementSpec.pre6 enc Tryz.prog Tryz.f7 Rows.searchComplementRow.domain false) (Rows.searchComplementSpec.post enc Tryz.prog Tryz.f7 false true false false) :=
  Ia (C := Tryz.checked) (s := Rows.searchComplementSpec) (k := 8) (f := 7) (fn := Tryz.f7) (g := Lf) (tb := 4) own started (by kernel_rfl) Tryz.func7
    (ChangeSpec.witness_shaped (enc := enc) (C := Tryz.checked) (os := os) (X := fun _ _ => True) false (World.laidAll Tryz.prog os []) #[.slice none 0 0, .agg #[.slice none 0 0]] 8 (World.laidAll_os _ _ _)
      (World.shaped_of_ZipB (by kernel_rfl) (by kernel_rfl)) (by kernel_rfl) (by kernel_rfl) (by kernel_rfl) trivial) U2 (by kernel_rfl) rfl (by kernel_rfl)
    ⟨rfl, fun H ds h => by match ds, h with | [a, b], _ => exact ⟨rfl, rfl, rfl⟩⟩ (by kernel_rfl) Mv Sq RP
/-- SearchComplement. -/
theorem searchComplement_holds : Rows.SearchComplementSaid :=
  OpenClaim.holds_of_wide 7 Tryz.f7 rfl rfl rfl rfl rfl rfl rfl ⟨rfl, rfl, rfl, rfl, rfl⟩ rfl rfl rfl rfl rfl (by kernel_rfl) Tryz.func7 (by kernel_rfl)
    (of_decide_eq_true (by kernel_rfl)) (by unfold Func.isWrapper; rw [if_neg (of_decide_eq_false (by kernel_rfl))]; exact ⟨rfl, rfl⟩)
    (fun os started H enc _ => searchComplement_lifted os started H enc)
end Go.Proofs.YtmbjnkgpcbpclaaGreat
