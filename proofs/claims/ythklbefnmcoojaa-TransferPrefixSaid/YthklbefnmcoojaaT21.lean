/- Walks, printed by wip/gen/walk.py. -/
import Derived.Test.YthklbefnmcoojaaT20
import Derived.Test.YthklbefnmcoojaaVc33
set_option linter.all false
set_option maxRecDepth 100000
set_option maxHeartbeats 4000000
namespace Go.Proofs.Ythklbefnmcoojaa
open Go Go.Vc Go.RowKit
theorem own : ownKnob Try.checked.prog.godebug = none := by kernel_rfl
theorem laidOut : laidOutB Try.checked.prog = true := by kernel_rfl
theorem wt_evs {xs : List (List D)} (h : ∀ x ∈ xs, WT Try.prog 3 48 x) : ∃ l, xs = rows eE l := by
  have hr : isRec Try.prog 48 2 [(0, 1, 3), (1, 1, 3)] = true := by kernel_rfl
  have hi : isI64 Try.prog 3 = true := by kernel_rfl
  obtain ⟨l, h, _⟩ := rows_of (f := eE) (q := fun _ => True) fun x hx => by
    obtain ⟨hl, hf⟩ := wt_rec (h x hx) hr
    obtain ⟨a, ha, _⟩ := wt_i64 (hf 0 1 3 (by simp)) hi
    obtain ⟨b, hb, _⟩ := wt_i64 (hf 1 1 3 (by simp)) hi
    match x, hl with
    | [u, v], _ =>
      simp only [eI, List.drop_zero, List.take_succ_cons, List.take_zero, List.drop_succ_cons, List.cons.injEq, and_true] at ha hb
      exact ⟨(a, b), by rw [ha, hb]; rfl, trivial⟩
  exact ⟨l, h⟩
theorem lawE_ok : LawOk Try.prog 4 [22, 23] lawEG := by
  have h1 : isSl Try.prog 22 5 = true := by kernel_rfl
  have h2 : isU8 Try.prog 5 = true := by kernel_rfl
  have h3 : isSl Try.prog 23 48 = true := by kernel_rfl
  refine lawOk_2 fun a b ha hb => ?_
  obtain ⟨xs, rfl, hl, hx⟩ := arg_sl ha h1
  obtain ⟨l, rfl⟩ := wt_bytes hx h2
  obtain ⟨ys, rfl, hm, hy⟩ := arg_sl hb h3
  obtain ⟨es, rfl⟩ := wt_evs hy
  refine ⟨_, rfl, ?_⟩
  rw [dU_rows, dE_rows]
  rw [rows_len] at hl hm
  exact ⟨rfl, rfl, hl, hm⟩
theorem lawB_ok : LawOk Try.prog 4 [22, 38] lawBG := by
  have h1 : isSl Try.prog 22 5 = true := by kernel_rfl
  have h2 : isU8 Try.prog 5 = true := by kernel_rfl
  have h3 : isSl Try.prog 38 4 = true := by kernel_rfl
  have h4 : isBool Try.prog 4 = true := by kernel_rfl
  refine lawOk_2 fun a b ha hb => ?_
  obtain ⟨xs, rfl, hl, hx⟩ := arg_sl ha h1
  obtain ⟨l, rfl⟩ := wt_bytes hx h2
  obtain ⟨ys, rfl, hm, hy⟩ := arg_sl hb h3
  obtain ⟨bs, rfl⟩ := wt_bools hy h4
  refine ⟨_, rfl, ?_⟩
  rw [dU_rows, dB_rows]
  rw [rows_len] at hl hm
  exact ⟨rfl, rfl, hl, hm⟩
theorem lawEk_ok : LawOk Try.prog 4 [22, 23, 3] lawEkG := by
  have h1 : isSl Try.prog 22 5 = true := by kernel_rfl
  have h2 : isU8 Try.prog 5 = true := by kernel_rfl
  have h3 : isSl Try.prog 23 48 = true := by kernel_rfl
  have h4 : isI64 Try.prog 3 = true := by kernel_rfl
  refine lawOk_3 fun a b c ha hb hc => ?_
  obtain ⟨xs, rfl, hl, hx⟩ := arg_sl ha h1
  obtain ⟨l, rfl⟩ := wt_bytes hx h2
  obtain ⟨ys, rfl, hm, hy⟩ := arg_sl hb h3
  obtain ⟨es, rfl⟩ := wt_evs hy
  obtain ⟨n, rfl, hn⟩ := arg_i64 hc h4
  refine ⟨_, rfl, ?_⟩
  rw [dU_rows, dE_rows]
  rw [rows_len] at hl hm
  exact ⟨rfl, rfl, hl, hm, hn⟩
end Go.Proofs.Ythklbefnmcoojaa
