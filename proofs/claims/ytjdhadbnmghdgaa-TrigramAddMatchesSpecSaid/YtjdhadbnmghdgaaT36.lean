/- Walks, printed by wip/gen/walk.py. -/
import Derived.Test.YtjdhadbnmghdgaaT29
import Derived.Test.YtjdhadbnmghdgaaV5
import Derived.Test.YtjdhadbnmghdgaaChecked
import Derived.Test.YtjdhadbnmghdgaaV5
set_option linter.all false
set_option maxRecDepth 100000
set_option maxHeartbeats 4000000
namespace Go.Proofs.Ytjdhadbnmghdgaa
open Go Go.Vc Go.RowKit
theorem own : ownKnob Try.checked.prog.godebug = none := by kernel_rfl
theorem laidOut : laidOutB Try.checked.prog = true := by kernel_rfl
theorem t_str : isStr Try.prog 9 = true := by kernel_rfl
theorem t_int : isI64 Try.prog 3 = true := by kernel_rfl
theorem t_ints : isSl Try.prog 24 3 = true := by kernel_rfl
theorem t_strs : isSl Try.prog 22 9 = true := by kernel_rfl
theorem t_posts : isSl Try.prog 25 55 = true := by kernel_rfl
theorem t_post : isRec Try.prog 55 2 [(0, 1, 9), (1, 1, 24)] = true := by kernel_rfl
theorem t_idx : isRec Try.prog 27 2 [(0, 1, 24), (1, 1, 25)] = true := by kernel_rfl
theorem wt_strs {k : Nat} {xs : List (List D)} (h : ∀ x ∈ xs, WT Try.prog (k + 1) 9 x) : ∃ l, xs = rows eT l ∧ ∀ s ∈ l, s.length ≤ 9223372036854775807 := rows_of (f := eT) (q := fun s => s.length ≤ 9223372036854775807) fun x hx => wt_str (h x hx) t_str
theorem wt_posts {k : Nat} {xs : List (List D)} (h : ∀ x ∈ xs, WT Try.prog (k + 3) 55 x) : ∃ l, xs = rows eP l ∧ smallP l := by
  obtain ⟨l, h, hq⟩ := rows_of (f := eP) (q := fun p => p.1.length ≤ 9223372036854775807 ∧ p.2.length ≤ 9223372036854775807) fun x hx => by
    obtain ⟨hl, hf⟩ := wt_rec (h x hx) t_post
    obtain ⟨s, ha, hsl⟩ := wt_str (hf 0 1 9 (by simp)) t_str
    obtain ⟨ps, hb, hpl, hps⟩ := wt_sl (hf 1 1 24 (by simp)) t_ints
    obtain ⟨t, rfl, _⟩ := wt_ints hps t_int
    match x, hl with
    | [u1, u2], _ =>
      simp only [eS, List.drop_zero, List.take_succ_cons, List.take_zero, List.drop_succ_cons, List.cons.injEq, and_true] at ha hb
      rw [rows_len] at hpl
      exact ⟨(s, t), by rw [ha, hb]; rfl, hsl, hpl⟩
  exact ⟨l, h, hq⟩
theorem arg_idx {c : AV} (h : ArgOk Try.prog 8 27 c) : ∃ l P, c = .agg [.d (.sl (rows eI l)), .d (.sl (rows eP P))] ∧ l.length ≤ 9223372036854775807 ∧ P.length ≤ 9223372036854775807 ∧ smallP P := by
  obtain ⟨ds, rfl, hl, hf⟩ := arg_rec h t_idx
  obtain ⟨xs, ha, h1, h2⟩ := wt_sl (hf 0 1 24 (by simp)) t_ints
  obtain ⟨l, rfl, _⟩ := wt_ints h2 t_int
  obtain ⟨ys, hb, h3, h4⟩ := wt_sl (hf 1 1 25 (by simp)) t_posts
  obtain ⟨P, rfl, h5⟩ := wt_posts h4
  match ds, hl with
  | [u1, u2], _ =>
    simp only [List.drop_zero, List.take_succ_cons, List.take_zero, List.drop_succ_cons, List.cons.injEq, and_true] at ha hb
    rw [rows_len] at h1 h3
    exact ⟨l, P, by rw [ha, hb]; rfl, h1, h3, h5⟩
theorem arg_texts {c : AV} (h : ArgOk Try.prog 8 22 c) : ∃ l : List Bs, c = .d (.sl (rows eT l)) ∧ l.length ≤ 9223372036854775807 ∧ ∀ s ∈ l, s.length ≤ 9223372036854775807 := by
  obtain ⟨xs, rfl, h1, h2⟩ := arg_sl h t_strs
  obtain ⟨l, rfl, h3⟩ := wt_strs h2
  rw [rows_len] at h1
  exact ⟨l, rfl, h1, h3⟩
theorem lawT_ok : LawOk Try.prog 8 [22] lawTG := by
  refine lawOk_1 fun a ha => ?_
  obtain ⟨l, rfl, h1, h2⟩ := arg_texts ha
  refine ⟨_, rfl, ?_⟩
  rw [dT_rows]; exact ⟨rfl, h1, h2⟩
theorem lawXS_ok : LawOk Try.prog 8 [27, 9] lawXSG := by
  refine lawOk_2 fun a b ha hb => ?_
  obtain ⟨l, P, rfl, h1, h2, h3⟩ := arg_idx ha
  obtain ⟨s, rfl, h4⟩ := arg_str hb t_str
  refine ⟨_, rfl, ?_⟩
  rw [dI_rows, dP_rows]; exact ⟨rfl, h1, rfl, h2, h3, h4⟩
theorem lawTS_ok : LawOk Try.prog 8 [22, 9] lawTSG := by
  refine lawOk_2 fun a b ha hb => ?_
  obtain ⟨l, rfl, h1, h2⟩ := arg_texts ha
  obtain ⟨s, rfl, h4⟩ := arg_str hb t_str
  refine ⟨_, rfl, ?_⟩
  rw [dT_rows]; exact ⟨rfl, h1, h2, h4⟩
theorem lawTN_ok : LawOk Try.prog 8 [22, 3] lawTNG := by
  refine lawOk_2 fun a b ha hb => ?_
  obtain ⟨l, rfl, h1, h2⟩ := arg_texts ha
  obtain ⟨n, rfl, h4⟩ := arg_i64 hb t_int
  refine ⟨_, rfl, ?_⟩
  rw [dT_rows]; exact ⟨rfl, h1, h2, h4⟩
theorem lawXNS_ok : LawOk Try.prog 8 [27, 3, 9] lawXNSG := by
  refine lawOk_3 fun a b c ha hb hc => ?_
  obtain ⟨l, P, rfl, h1, h2, h3⟩ := arg_idx ha
  obtain ⟨n, rfl, h4⟩ := arg_i64 hb t_int
  obtain ⟨s, rfl, h5⟩ := arg_str hc t_str
  refine ⟨_, rfl, ?_⟩
  rw [dI_rows, dP_rows]; exact ⟨rfl, h1, rfl, h2, h3, h5, h4⟩
end Go.Proofs.Ytjdhadbnmghdgaa
