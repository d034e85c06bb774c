/- The law ShallowCutMatchesSpec returns true for every input, and each argument reads behind the call as it read before. Conditions: none. -/
import Derived.Test.YtaoifpmifpmhmaaT17
import Derived.Test.YtaoifpmifpmhmaaRows
import Derived.Test.YtaoifpmifpmhmaaVc35
set_option linter.all false
set_option maxRecDepth 100000
set_option maxHeartbeats 4000000
namespace Go.Proofs.Ytaoifpmifpmhmaa
open Go Go.Vc Go.RowKit
theorem lawC_ok : LawOk Try.prog 8 [22, 24, 3] lawCG := by
  have h1 : isSl Try.prog 22 40 = true := by kernel_rfl
  have h2 : isSl Try.prog 24 3 = true := by kernel_rfl
  have h3 : isI64 Try.prog 3 = true := by kernel_rfl
  refine lawOk_3 fun a b c ha hb hc => ?_
  obtain ⟨xs, rfl, hl, hx⟩ := arg_sl ha h1
  obtain ⟨l, rfl, hs⟩ := wt_cms hx
  obtain ⟨ys, rfl, hm, hy⟩ := arg_sl hb h2
  obtain ⟨ns, rfl, _⟩ := wt_ints hy h3
  obtain ⟨n0, rfl, g0⟩ := arg_i64 hc h3
  refine ⟨_, rfl, ?_⟩
  rw [dC_rows, dI_rows]
  rw [rows_len] at hl hm
  exact ⟨rfl, rfl, hl, hs, hm, g0⟩

theorem shallowCutMatchesSpec_lifted (os : Os) (started : os.Started) (H : Type) (enc : TypeId × Value → H) : ReturnsInHanded {} Try.checked os 7 .any (Rows.shallowCutMatchesSpecSpec.pre6 enc Try.prog Try.f7 Rows.shallowCutMatchesSpecRow.domain false) (Rows.shallowCutMatchesSpecSpec.post enc Try.prog Try.f7 false true false false) :=
  law_lifted (C := Try.checked) (s := Rows.shallowCutMatchesSpecSpec) (k := 8) (f := 7) (fn := Try.f7) (g := lawCG) (tb := 4) own started (by kernel_rfl) Try.func7
    (ChangeSpec.witness6 (enc := enc) (C := Try.checked) false ⟨#[], #[.slice none 0 0, .slice none 0 0, .int .i64 0], []⟩ 8 (by kernel_rfl) (by kernel_rfl) (by kernel_rfl) (by kernel_rfl) (by kernel_rfl)) laidOut (by kernel_rfl) rfl (by kernel_rfl)
    ⟨rfl, fun H ds h => by match ds, h with | [a, b, c], _ => exact ⟨rfl, rfl, rfl⟩⟩ (by kernel_rfl) lawCut_meets lawC_ok
/-- ShallowCutMatchesSpec. -/
theorem shallowCutMatchesSpec_holds : Rows.ShallowCutMatchesSpecSaid :=
  OpenClaim.holds_of_wide 7 Try.f7 rfl rfl rfl rfl rfl rfl rfl ⟨rfl, rfl, rfl, rfl, rfl⟩ rfl rfl rfl rfl rfl (by kernel_rfl) Try.func7 (by kernel_rfl)
    (of_decide_eq_true (by kernel_rfl)) (by unfold Func.isWrapper; rw [if_neg (of_decide_eq_false (by kernel_rfl))]; exact ⟨rfl, rfl⟩)
    (fun os started H enc _ => shallowCutMatchesSpec_lifted os started H enc)
end Go.Proofs.Ytaoifpmifpmhmaa
