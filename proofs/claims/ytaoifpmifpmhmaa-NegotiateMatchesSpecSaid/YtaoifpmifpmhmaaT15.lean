/- Walks, printed by wip/gen/walk.py. -/
import Derived.Test.YtaoifpmifpmhmaaT14
import Derived.Test.YtaoifpmifpmhmaaV4
import Derived.Test.YtaoifpmifpmhmaaChecked
import Derived.Test.YtaoifpmifpmhmaaV4
set_option linter.all false
set_option maxRecDepth 100000
set_option maxHeartbeats 4000000
namespace Go.Proofs.Ytaoifpmifpmhmaa
open Go Go.Vc Go.RowKit
theorem own : ownKnob Try.checked.prog.godebug = none := by kernel_rfl
theorem laidOut : laidOutB Try.checked.prog = true := by kernel_rfl
theorem wt_cms {k : Nat} {xs : List (List D)} (h : ∀ x ∈ xs, WT Try.prog (k + 3) 40 x) : ∃ l, xs = rows eC l ∧ smallC l := by
  have hr : isRec Try.prog 40 5 [(0, 1, 24), (1, 1, 3), (2, 1, 3), (3, 1, 3), (4, 1, 9)] = true := by kernel_rfl
  have hi : isI64 Try.prog 3 = true := by kernel_rfl
  have hs : isSl Try.prog 24 3 = true := by kernel_rfl
  have ht : isStr Try.prog 9 = true := by kernel_rfl
  obtain ⟨l, h, hq⟩ := rows_of (f := eC) (q := fun c => c.par.length ≤ 9223372036854775807 ∧ c.ms.length ≤ 9223372036854775807) fun x hx => by
    obtain ⟨hl, hf⟩ := wt_rec (h x hx) hr
    obtain ⟨ps, ha, hpl, hps⟩ := wt_sl (hf 0 1 24 (by simp)) hs
    obtain ⟨par, rfl, _⟩ := wt_ints hps hi
    obtain ⟨a, hb, _⟩ := wt_i64 (hf 1 1 3 (by simp)) hi
    obtain ⟨t, hc, _⟩ := wt_i64 (hf 2 1 3 (by simp)) hi
    obtain ⟨r, hd, _⟩ := wt_i64 (hf 3 1 3 (by simp)) hi
    obtain ⟨s, he, hsl⟩ := wt_str (hf 4 1 9 (by simp)) ht
    match x, hl with
    | [u1, u2, u3, u4, u5], _ =>
      simp only [eI, eS, List.drop_zero, List.take_succ_cons, List.take_zero, List.drop_succ_cons, List.cons.injEq, and_true] at ha hb hc hd he
      rw [rows_len] at hpl
      exact ⟨⟨par, a, t, r, s⟩, by rw [ha, hb, hc, hd, he]; rfl, hpl, hsl⟩
  exact ⟨l, h, hq⟩

theorem lawS_ok : LawOk Try.prog 8 [22, 24] lawSG := by
  have h1 : isSl Try.prog 22 40 = true := by kernel_rfl
  have h2 : isSl Try.prog 24 3 = true := by kernel_rfl
  have h3 : isI64 Try.prog 3 = true := by kernel_rfl
  refine lawOk_2 fun a b ha hb => ?_
  obtain ⟨xs, rfl, hl, hx⟩ := arg_sl ha h1
  obtain ⟨l, rfl, hs⟩ := wt_cms hx
  obtain ⟨ys, rfl, hm, hy⟩ := arg_sl hb h2
  obtain ⟨ns, rfl, _⟩ := wt_ints hy h3
  refine ⟨_, rfl, ?_⟩
  rw [dC_rows, dI_rows]
  rw [rows_len] at hl hm
  exact ⟨rfl, rfl, hl, hs, hm⟩
end Go.Proofs.Ytaoifpmifpmhmaa
