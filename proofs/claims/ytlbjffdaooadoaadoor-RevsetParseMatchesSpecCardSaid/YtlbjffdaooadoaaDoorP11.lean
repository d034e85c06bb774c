/- The law RevsetParseMatchesSpec returns true for every input, and each argument reads behind the call as it read before. Conditions: the listed package variables hold what the program's text lays (the card ties them). -/
import Derived.Test.YtlbjffdaooadoaaDoorT87
import Derived.Test.YtlbjffdaooadoaaDoorT46
import Derived.Test.YtlbjffdaooadoaaDoorRows
import Derived.Test.YtlbjffdaooadoaaDoorCards
import Derived.Test.YtlbjffdaooadoaaDoorTie
import Derived.Test.YtlbjffdaooadoaaDoorV5
import Derived.ProofKit
import Derived.OpenShut
import Derived.LaidMore
import Derived.Lay
import Derived.SevenTiedAt
set_option linter.all false
set_option maxRecDepth 100000
set_option maxHeartbeats 4000000
namespace Go.Proofs.YtlbjffdaooadoaaDoor
open Go Go.Vc Go.RowKit
theorem lawP_ok : LawOk Tryd.prog 8 [9] lawPG := by
  refine lawOk_1 fun a ha => ?_
  obtain ⟨s, rfl, h1⟩ := arg_str ha t_str
  exact ⟨_, rfl, h1⟩

theorem revsetParseMatchesSpec_lifted (os : Os) (started : os.Started) (H : Type) (enc : TypeId × Value → H) : ReturnsInHanded {} Tryd.checked os 8 .any (fun w args => (Rows.revsetParseMatchesSpecSpec.pre enc Tryd.prog Tryd.f8 Rows.revsetParseMatchesSpecRow.domain false w args ∧ laidMetH Tryd.prog laid0 w) ∧ sizedMet enc Tryd.prog Tryd.f8 (OpenSpec.ofChange Rows.revsetParseMatchesSpecSpec) false w args) (Rows.revsetParseMatchesSpecSpec.post enc Tryd.prog Tryd.f8 false true false false) :=
  law_lifted_laid3 (C := Tryd.checked) (s := Rows.revsetParseMatchesSpecSpec) (k := 8) (f := 8) (fn := Tryd.f8) (g := lawPG) (tb := 4) own started (by kernel_rfl) Tryd.func8
    (ChangeSpec.witness_shaped (enc := enc) (C := Tryd.checked) (os := os) (X := fun w _ => laidMetH Tryd.prog laid0 w) false (World.laidAll Tryd.prog os laid0) #[.string ⟨#[]⟩] 8 (World.laidAll_os _ _ _)
      (World.shaped_of_ZipB (by kernel_rfl) (by kernel_rfl)) (by kernel_rfl) (by kernel_rfl) (by kernel_rfl)
      (by rw [MakeChecks.laidMetH_plain _ _ _ (by kernel_rfl)]; exact laidMet_laidAll _ (by kernel_rfl) (by kernel_rfl))) laidOut (by kernel_rfl) rfl (by kernel_rfl)
    ⟨rfl, fun H ds h => by match ds, h with | [a], _ => exact ⟨rfl, rfl, rfl⟩⟩ (by kernel_rfl) lawP_meets lawP_ok globs_at0
theorem revsetParseMatchesSpec_row_holds : Rows.RevsetParseMatchesSpecSaid :=
  OpenClaim.holds_of_wide 8 Tryd.f8 rfl rfl rfl rfl rfl rfl rfl ⟨rfl, rfl, rfl, rfl, rfl⟩ rfl rfl rfl rfl rfl (by kernel_rfl) Tryd.func8 (by kernel_rfl)
    (of_decide_eq_true (by kernel_rfl)) (by unfold Func.isWrapper; rw [if_neg (of_decide_eq_false (by kernel_rfl))]; exact ⟨rfl, rfl⟩)
    (fun os started H enc _ => revsetParseMatchesSpec_lifted os started H enc)
theorem revsetParseMatchesSpec_holds : Rows.RevsetParseMatchesSpecCardSaid :=
  Claim7.holds_tied_plain_at .later [] [.data, .data, .data, .sentinel, .sentinel, .data, .data] true (true, "7bdd89a32dbf70033609b68d9a5a2b6ac2ec47c4c736a5705d71bda637011d14") true
    revsetParseMatchesSpec_row_holds (fun _ h => by cases h) (by kernel_rfl) (fun _ h => by cases h) revsetParseMatchesSpec_row_tie rfl ⟨rfl, rfl⟩ (by kernel_rfl) rfl
    (fun f fn hf hfn => by
      obtain rfl : f = 8 := Option.some.inj ((show Tryd.prog.funcNamed "changeforge/changeforgelaw4.RevsetParseMatchesSpec" = some 8 by kernel_rfl).symm.trans hf) |>.symm
      obtain rfl : fn = Tryd.f8 := (Option.some.inj (Tryd.func8.symm.trans hfn)).symm
      exact ⟨by kernel_rfl, fun j t ht => by
        rw [Tryd.params8] at ht
        have hm : t ∈ [9] := by simpa using Array.mem_of_getElem? ht
        have hall : ([9].all fun u => !Tryd.prog.wantsStandIn u) = true := by kernel_rfl
        exact (show Tryd.prog.wantsStandIn t = false by simpa using List.all_eq_true.1 hall t hm)⟩)
    (by kernel_rfl)
end Go.Proofs.YtlbjffdaooadoaaDoor
