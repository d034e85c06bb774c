/- The law TopCollectFiltered returns true for every input, and each argument reads behind the call as it read before. Conditions: the listed package variables hold what the program's text lays (the card ties them). -/
import Derived.Test.YtcjipciiljjfhaaDoorT63
import Derived.Test.YtcjipciiljjfhaaDoorT64
import Derived.Test.YtcjipciiljjfhaaDoorRows
import Derived.Test.YtcjipciiljjfhaaDoorCards
import Derived.Test.YtcjipciiljjfhaaDoorTie
import Derived.Test.YtcjipciiljjfhaaDoorV5
import Derived.ProofKit
import Derived.OpenShut
import Derived.LaidMore
import Derived.Lay
import Derived.SevenTiedAt
set_option linter.all false
set_option maxRecDepth 100000
set_option maxHeartbeats 4000000
namespace Go.Proofs.YtcjipciiljjfhaaDoor
open Go Go.Vc Go.RowKit
abbrev laid0 : List (String × DataW Unit) := [("unicode/utf8.acceptRanges", Rows.laid_unicode_utf8_acceptRanges), ("unicode/utf8.first", Rows.laid_unicode_utf8_first)]
theorem topCollectFiltered_lifted (os : Os) (started : os.Started) (H : Type) (enc : TypeId × Value → H) : ReturnsInHanded {} Tryd.checked os 3 .any (fun w args => (Rows.topCollectFilteredSpec.pre enc Tryd.prog Tryd.f3 Rows.topCollectFilteredRow.domain false w args ∧ laidMetH Tryd.prog laid0 w) ∧ sizedMet enc Tryd.prog Tryd.f3 (OpenSpec.ofChange Rows.topCollectFilteredSpec) false w args) (Rows.topCollectFilteredSpec.post enc Tryd.prog Tryd.f3 false true false false) :=
  law_lifted_laid2 (C := Tryd.checked) (s := Rows.topCollectFilteredSpec) (k := 8) (f := 3) (fn := Tryd.f3) (g := lawTCG) (tb := 4) own started (by kernel_rfl) Tryd.func3
    (ChangeSpec.witness_shaped (enc := enc) (C := Tryd.checked) (os := os) (X := fun w _ => laidMetH Tryd.prog laid0 w) false (World.laidAll Tryd.prog os laid0) #[.agg #[.slice none 0 0], .agg #[.slice none 0 0], .slice none 0 0, .int .i64 0, .int .i64 0] 8 (World.laidAll_os _ _ _)
      (World.shaped_of_ZipB (by kernel_rfl) (by kernel_rfl)) (by kernel_rfl) (by kernel_rfl) (by kernel_rfl)
      (by rw [MakeChecks.laidMetH_plain _ _ _ (by kernel_rfl)]; exact laidMet_laidAll _ (by kernel_rfl) (by kernel_rfl))) laidOut (by kernel_rfl) rfl (by kernel_rfl)
    ⟨rfl, fun H ds h => by match ds, h with | [a, b, c, d, e], _ => exact ⟨rfl, rfl, rfl⟩⟩ (by kernel_rfl) lawTC_meets lawTC_ok globs_at
theorem topCollectFiltered_row_holds : Rows.TopCollectFilteredSaid :=
  OpenClaim.holds_of_wide 3 Tryd.f3 rfl rfl rfl rfl rfl rfl rfl ⟨rfl, rfl, rfl, rfl, rfl⟩ rfl rfl rfl rfl rfl (by kernel_rfl) Tryd.func3 (by kernel_rfl)
    (of_decide_eq_true (by kernel_rfl)) (by unfold Func.isWrapper; rw [if_neg (of_decide_eq_false (by kernel_rfl))]; exact ⟨rfl, rfl⟩)
    (fun os started H enc _ => topCollectFiltered_lifted os started H enc)
/-- TopCollectFiltered: the card. -/
theorem topCollectFiltered_holds : Rows.TopCollectFilteredCardSaid :=
  Claim7.holds_tied_plain_at .later [] [.data, .pinned] true (true, "610f363d258c5a957fffb6a12d00434d32d869ae1d9a61b0da8f2d0956b2ea06") false
    topCollectFiltered_row_holds (fun _ h => by cases h) (by kernel_rfl) (fun _ h => by cases h) topCollectFiltered_row_tie rfl ⟨rfl, rfl⟩ (by kernel_rfl) rfl
    (fun f fn hf hfn => by
      obtain rfl : f = 3 := Option.some.inj ((show Tryd.prog.funcNamed "changeforge/changeforgetop.TopCollectFiltered" = some 3 by kernel_rfl).symm.trans hf) |>.symm
      obtain rfl : fn = Tryd.f3 := (Option.some.inj (Tryd.func3.symm.trans hfn)).symm
      exact ⟨by kernel_rfl, fun j t ht => by
        rw [Tryd.params3] at ht
        have hm : t ∈ [24, 27, 28, 3, 3] := by simpa using Array.mem_of_getElem? ht
        have hall : ([24, 27, 28, 3, 3].all fun u => !Tryd.prog.wantsStandIn u) = true := by kernel_rfl
        exact (show Tryd.prog.wantsStandIn t = false by simpa using List.all_eq_true.1 hall t hm)⟩)
    (by kernel_rfl)
end Go.Proofs.YtcjipciiljjfhaaDoor
