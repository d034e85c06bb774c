/- Walks, printed by wip/gen/walk.py. -/
import Derived.Test.YtaoifpmifpmhmaaT46
import Derived.Test.YtaoifpmifpmhmaaV4
set_option linter.all false
set_option maxRecDepth 100000
set_option maxHeartbeats 4000000
namespace Go.Proofs.Ytaoifpmifpmhmaa
open Go Go.Vc Go.RowKit
theorem lawN_ok : LawOk Try.prog 8 [22, 23, 23, 24] lawNG := by
  have h1 : isSl Try.prog 22 40 = true := by kernel_rfl
  have h2 : isSl Try.prog 24 3 = true := by kernel_rfl
  have h3 : isI64 Try.prog 3 = true := by kernel_rfl
  have h4 : isSl Try.prog 23 4 = true := by kernel_rfl
  have h5 : isBool Try.prog 4 = true := by kernel_rfl
  refine lawOk_4 fun a b c d ha hb hc hd => ?_
  obtain ⟨xs, rfl, hl, hx⟩ := arg_sl ha h1
  obtain ⟨l, rfl, hs⟩ := wt_cms hx
  obtain ⟨ys, rfl, hm, hy⟩ := arg_sl hb h4
  obtain ⟨ss, rfl⟩ := wt_bools hy h5
  obtain ⟨zs, rfl, hn, hz⟩ := arg_sl hc h4
  obtain ⟨rs, rfl⟩ := wt_bools hz h5
  obtain ⟨vs, rfl, ho, hv⟩ := arg_sl hd h2
  obtain ⟨ws, rfl, _⟩ := wt_ints hv h3
  refine ⟨_, rfl, ?_⟩
  rw [dC_rows, dB_rows, dB_rows, dI_rows]
  rw [rows_len] at hl hm hn ho
  exact ⟨rfl, rfl, rfl, rfl, hl, hs, hm, hn, ho⟩
end Go.Proofs.Ytaoifpmifpmhmaa
