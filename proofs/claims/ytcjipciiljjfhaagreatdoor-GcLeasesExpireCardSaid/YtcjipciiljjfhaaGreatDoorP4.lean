/- The law GcLeasesExpire returns true for every input, and each argument reads behind the call as it read before. Conditions: the listed package variables hold what the program's text lays (the card ties them). -/
import Derived.Test.YtcjipciiljjfhaaGreatDoorT45
import Derived.Test.YtcjipciiljjfhaaGreatDoorT46
import Derived.Test.YtcjipciiljjfhaaGreatDoorRows
import Derived.Test.YtcjipciiljjfhaaGreatDoorCards
import Derived.Test.YtcjipciiljjfhaaGreatDoorTie
import Derived.Test.YtcjipciiljjfhaaGreatDoorV5
import Derived.ProofKit
import Derived.OpenShut
import Derived.LaidMore
import Derived.Lay
import Derived.SevenTiedAt
set_option linter.all false
set_option maxRecDepth 100000
set_option maxHeartbeats 4000000
namespace Go.Proofs.YtcjipciiljjfhaaGreatDoor
open Go Go.Vc Go.RowKit
abbrev laid0 : List (String × DataW Unit) := [("unicode/utf8.acceptRanges", Rows.laid_unicode_utf8_acceptRanges), ("unicode/utf8.first", Rows.laid_unicode_utf8_first)]
theorem gcLeasesExpire_lifted (os : Os) (started : os.Started) (H : Type) (enc : TypeId × Value → H) : ReturnsInHanded {} Tryz.checked os 5 .any (fun w args => (Rows.gcLeasesExpireSpec.pre enc Tryz.prog Tryz.f5 Rows.gcLeasesExpireRow.domain false w args ∧ laidMetH Tryz.prog laid0 w) ∧ sizedMet enc Tryz.prog Tryz.f5 (OpenSpec.ofChange Rows.gcLeasesExpireSpec) false w args) (Rows.gcLeasesExpireSpec.post enc Tryz.prog Tryz.f5 false true false false) :=
  law_lifted_laid2 (C := Tryz.checked) (s := Rows.gcLeasesExpireSpec) (k := 8) (f := 5) (fn := Tryz.f5) (g := lawCLG) (tb := 4) own started (by kernel_rfl) Tryz.func5
    (ChangeSpec.witness_shaped (enc := enc) (C := Tryz.checked) (os := os) (X := fun w _ => laidMetH Tryz.prog laid0 w) false (World.laidAll Tryz.prog os laid0) #[.agg #[.slice none 0 0], .agg #[.slice none 0 0], .slice none 0 0, .int .i64 0, .int .i64 0] 8 (World.laidAll_os _ _ _)
      (World.shaped_of_ZipB (by kernel_rfl) (by kernel_rfl)) (by kernel_rfl) (by kernel_rfl) (by kernel_rfl)
      (by rw [MakeChecks.laidMetH_plain _ _ _ (by kernel_rfl)]; exact laidMet_laidAll _ (by kernel_rfl) (by kernel_rfl))) laidOut (by kernel_rfl) rfl (by kernel_rfl)
    ⟨rfl, fun H ds h => by match ds, h with | [a, b, c, d, e], _ => exact ⟨rfl, rfl, rfl⟩⟩ (by kernel_rfl) lawGL_meets lawCL_ok globs_at
theorem gcLeasesExpire_row_holds : Rows.GcLeasesExpireSaid :=
  OpenClaim.holds_of_wide 5 Tryz.f5 rfl rfl rfl rfl rfl rfl rfl ⟨rfl, rfl, rfl, rfl, rfl⟩ rfl rfl rfl rfl rfl (by kernel_rfl) Tryz.func5 (by kernel_rfl)
    (of_decide_eq_true (by kernel_rfl)) (by unfold Func.isWrapper; rw [if_neg (of_decide_eq_false (by kernel_rfl))]; exact ⟨rfl, rfl⟩)
    (fun os started H enc _ => gcLeasesExpire_lifted os started H enc)
/-- GcLeasesExpire: the card. -/
theorem gcLeasesExpire_holds : Rows.GcLeasesExpireCardSaid :=
  Claim7.holds_tied_plain_at .later [] [.data, .pinned] true (true, "a46528d205bc28d497565291b6b947dfdb1641bd69c5aacaae5a3a8a12b91969") false
    gcLeasesExpire_row_holds (fun _ h => by cases h) (by kernel_rfl) (fun _ h => by cases h) gcLeasesExpire_row_tie rfl ⟨rfl, rfl⟩ (by kernel_rfl) rfl
    (fun f fn hf hfn => by
      obtain rfl : f = 5 := Option.some.inj ((show Tryz.prog.funcNamed "changeforge/changeforgelaw4.GcLeasesExpire" = some 5 by kernel_rfl).symm.trans hf) |>.symm
      obtain rfl : fn = Tryz.f5 := (Option.some.inj (Tryz.func5.symm.trans hfn)).symm
      exact ⟨by kernel_rfl, fun j t ht => by
        rw [Tryz.params5] at ht
        have hm : t ∈ [24, 27, 28, 3, 3] := by simpa using Array.mem_of_getElem? ht
        have hall : ([24, 27, 28, 3, 3].all fun u => !Tryz.prog.wantsStandIn u) = true := by kernel_rfl
        exact (show Tryz.prog.wantsStandIn t = false by simpa using List.all_eq_true.1 hall t hm)⟩)
    (by kernel_rfl)
end Go.Proofs.YtcjipciiljjfhaaGreatDoor
