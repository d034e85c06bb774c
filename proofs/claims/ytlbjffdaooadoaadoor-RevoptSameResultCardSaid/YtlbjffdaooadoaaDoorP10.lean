/- The law RevoptSameResult returns true for every input, and each argument reads behind the call as it read before. Conditions: the listed package variables hold what the program's text lays (the card ties them). -/
import Derived.Test.YtlbjffdaooadoaaDoorT72
import Derived.Test.YtlbjffdaooadoaaDoorRows
import Derived.Test.YtlbjffdaooadoaaDoorCards
import Derived.Test.YtlbjffdaooadoaaDoorTie
import Derived.Test.YtlbjffdaooadoaaDoorV5
import Derived.ProofKit
import Derived.OpenShut
import Derived.LaidMore
import Derived.Lay
import Derived.SevenTiedAt
set_option linter.all false
set_option maxRecDepth 100000
set_option maxHeartbeats 4000000
namespace Go.Proofs.YtlbjffdaooadoaaDoor
open Go Go.Vc Go.RowKit
theorem lawS_ok : LawOk Tryd.prog 8 [40, 24] lawSG := by
  refine lawOk_2 fun a b ha hb => ?_
  obtain ⟨l, rfl, h1, h2⟩ := arg_cms ha
  obtain ⟨p, rfl, h3⟩ := arg_rq hb
  refine ⟨_, rfl, ?_⟩
  rw [dC_rows, dN_rows]; exact ⟨rfl, h1, h2, rfl, h3⟩

theorem revoptSameResult_lifted (os : Os) (started : os.Started) (H : Type) (enc : TypeId × Value → H) : ReturnsInHanded {} Tryd.checked os 13 .any (fun w args => (Rows.revoptSameResultSpec.pre enc Tryd.prog Tryd.f13 Rows.revoptSameResultRow.domain false w args ∧ laidMetH Tryd.prog laid0 w) ∧ sizedMet enc Tryd.prog Tryd.f13 (OpenSpec.ofChange Rows.revoptSameResultSpec) false w args) (Rows.revoptSameResultSpec.post enc Tryd.prog Tryd.f13 false true false false) :=
  law_lifted_laid3 (C := Tryd.checked) (s := Rows.revoptSameResultSpec) (k := 8) (f := 13) (fn := Tryd.f13) (g := lawSG) (tb := 4) own started (by kernel_rfl) Tryd.func13
    (ChangeSpec.witness_shaped (enc := enc) (C := Tryd.checked) (os := os) (X := fun w _ => laidMetH Tryd.prog laid0 w) false (World.laidAll Tryd.prog os laid0) #[.slice none 0 0, .agg #[.slice none 0 0]] 8 (World.laidAll_os _ _ _)
      (World.shaped_of_ZipB (by kernel_rfl) (by kernel_rfl)) (by kernel_rfl) (by kernel_rfl) (by kernel_rfl)
      (by rw [MakeChecks.laidMetH_plain _ _ _ (by kernel_rfl)]; exact laidMet_laidAll _ (by kernel_rfl) (by kernel_rfl))) laidOut (by kernel_rfl) rfl (by kernel_rfl)
    ⟨rfl, fun H ds h => by match ds, h with | [a, b], _ => exact ⟨rfl, rfl, rfl⟩⟩ (by kernel_rfl) lawS_meets lawS_ok globs_at0
theorem revoptSameResult_row_holds : Rows.RevoptSameResultSaid :=
  OpenClaim.holds_of_wide 13 Tryd.f13 rfl rfl rfl rfl rfl rfl rfl ⟨rfl, rfl, rfl, rfl, rfl⟩ rfl rfl rfl rfl rfl (by kernel_rfl) Tryd.func13 (by kernel_rfl)
    (of_decide_eq_true (by kernel_rfl)) (by unfold Func.isWrapper; rw [if_neg (of_decide_eq_false (by kernel_rfl))]; exact ⟨rfl, rfl⟩)
    (fun os started H enc _ => revoptSameResult_lifted os started H enc)
/-- RevoptSameResult: the card. -/
theorem revoptSameResult_holds : Rows.RevoptSameResultCardSaid :=
  Claim7.holds_tied_plain_at .later [] [.data, .data, .data, .sentinel, .sentinel, .data, .data, .data] true (true, "7bdd89a32dbf70033609b68d9a5a2b6ac2ec47c4c736a5705d71bda637011d14") true
    revoptSameResult_row_holds (fun _ h => by cases h) (by kernel_rfl) (fun _ h => by cases h) revoptSameResult_row_tie rfl ⟨rfl, rfl⟩ (by kernel_rfl) rfl
    (fun f fn hf hfn => by
      obtain rfl : f = 13 := Option.some.inj ((show Tryd.prog.funcNamed "changeforge/changeforgelaw4.RevoptSameResult" = some 13 by kernel_rfl).symm.trans hf) |>.symm
      obtain rfl : fn = Tryd.f13 := (Option.some.inj (Tryd.func13.symm.trans hfn)).symm
      exact ⟨by kernel_rfl, fun j t ht => by
        rw [Tryd.params13] at ht
        have hm : t ∈ [40, 24] := by simpa using Array.mem_of_getElem? ht
        have hall : ([40, 24].all fun u => !Tryd.prog.wantsStandIn u) = true := by kernel_rfl
        exact (show Tryd.prog.wantsStandIn t = false by simpa using List.all_eq_true.1 hall t hm)⟩)
    (by kernel_rfl)
end Go.Proofs.YtlbjffdaooadoaaDoor
