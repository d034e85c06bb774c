/- Walks, printed by wip/gen/walk.py. -/
import Derived.Test.YtjpkgmmmmcgmeaaT14
import Derived.Test.YtjpkgmmmmcgmeaaV5
import Derived.Test.YtjpkgmmmmcgmeaaChecked
import Derived.Test.YtjpkgmmmmcgmeaaV5
set_option linter.all false
set_option maxRecDepth 100000
set_option maxHeartbeats 4000000
namespace Go.Proofs.Ytjpkgmmmmcgmeaa
open Go Go.Vc Go.RowKit
theorem own : ownKnob Try.checked.prog.godebug = none := by kernel_rfl
theorem laidOut : laidOutB Try.checked.prog = true := by kernel_rfl
theorem t_int : isI64 Try.prog 3 = true := by kernel_rfl
theorem t_str : isStr Try.prog 9 = true := by kernel_rfl
theorem t_ints : isSl Try.prog 34 3 = true := by kernel_rfl
theorem t_mks : isSl Try.prog 22 52 = true := by kernel_rfl
theorem t_cms : isSl Try.prog 46 73 = true := by kernel_rfl
theorem t_mk : isRec Try.prog 52 2 [(0, 1, 3), (1, 1, 34)] = true := by kernel_rfl
theorem t_cm : isRec Try.prog 73 5 [(0, 1, 34), (1, 1, 3), (2, 1, 3), (3, 1, 3), (4, 1, 9)] = true := by kernel_rfl
theorem wt_mks {k : Nat} {xs : List (List D)} (h : ∀ x ∈ xs, WT Try.prog (k + 3) 52 x) : ∃ l, xs = rows eM l ∧ smallM l := by
  obtain ⟨l, h, hq⟩ := rows_of (f := eM) (q := fun m => m.nw.length ≤ 9223372036854775807) fun x hx => by
    obtain ⟨hl, hf⟩ := wt_rec (h x hx) t_mk
    obtain ⟨o, ha, _⟩ := wt_i64 (hf 0 1 3 (by simp)) t_int
    obtain ⟨ns, hb, hnl, hns⟩ := wt_sl (hf 1 1 34 (by simp)) t_ints
    obtain ⟨nw, rfl, _⟩ := wt_ints hns t_int
    match x, hl with
    | [u1, u2], _ =>
      simp only [eI, List.drop_zero, List.take_succ_cons, List.take_zero, List.drop_succ_cons, List.cons.injEq, and_true] at ha hb
      rw [rows_len] at hnl
      exact ⟨⟨o, nw⟩, by rw [ha, hb]; rfl, hnl⟩
  exact ⟨l, h, hq⟩
theorem wt_cms {k : Nat} {xs : List (List D)} (h : ∀ x ∈ xs, WT Try.prog (k + 3) 73 x) : ∃ l, xs = rows eC l ∧ smallC l := by
  obtain ⟨l, h, hq⟩ := rows_of (f := eC) (q := fun c => c.par.length ≤ 9223372036854775807 ∧ c.ms.length ≤ 9223372036854775807) fun x hx => by
    obtain ⟨hl, hf⟩ := wt_rec (h x hx) t_cm
    obtain ⟨ps, ha, hpl, hps⟩ := wt_sl (hf 0 1 34 (by simp)) t_ints
    obtain ⟨par, rfl, _⟩ := wt_ints hps t_int
    obtain ⟨a, hb, _⟩ := wt_i64 (hf 1 1 3 (by simp)) t_int
    obtain ⟨t, hc, _⟩ := wt_i64 (hf 2 1 3 (by simp)) t_int
    obtain ⟨r, hd, _⟩ := wt_i64 (hf 3 1 3 (by simp)) t_int
    obtain ⟨s, he, hsl⟩ := wt_str (hf 4 1 9 (by simp)) t_str
    match x, hl with
    | [u1, u2, u3, u4, u5], _ =>
      simp only [eI, eS, List.drop_zero, List.take_succ_cons, List.take_zero, List.drop_succ_cons, List.cons.injEq, and_true] at ha hb hc hd he
      rw [rows_len] at hpl
      exact ⟨⟨par, a, t, r, s⟩, by rw [ha, hb, hc, hd, he]; rfl, hpl, hsl⟩
  exact ⟨l, h, hq⟩
theorem arg_mks {c : AV} (h : ArgOk Try.prog 8 22 c) : ∃ l : List Mk, c = .d (.sl (rows eM l)) ∧ l.length ≤ 9223372036854775807 ∧ smallM l := by
  obtain ⟨xs, rfl, h1, h2⟩ := arg_sl h t_mks
  obtain ⟨l, rfl, h3⟩ := wt_mks h2
  rw [rows_len] at h1
  exact ⟨l, rfl, h1, h3⟩
theorem arg_cms {c : AV} (h : ArgOk Try.prog 8 46 c) : ∃ l : List Cm, c = .d (.sl (rows eC l)) ∧ l.length ≤ 9223372036854775807 ∧ smallC l := by
  obtain ⟨xs, rfl, h1, h2⟩ := arg_sl h t_cms
  obtain ⟨l, rfl, h3⟩ := wt_cms h2
  rw [rows_len] at h1
  exact ⟨l, rfl, h1, h3⟩
theorem arg_ns {c : AV} (h : ArgOk Try.prog 8 34 c) : ∃ l : List Int, c = .d (.sl (rows eI l)) ∧ l.length ≤ 9223372036854775807 := by
  obtain ⟨xs, rfl, h1, h2⟩ := arg_sl h t_ints
  obtain ⟨l, rfl, _⟩ := wt_ints h2 t_int
  rw [rows_len] at h1
  exact ⟨l, rfl, h1⟩
theorem lawLN_ok : LawOk Try.prog 8 [22, 3] lawLNG := by
  refine lawOk_2 fun a b ha hb => ?_
  obtain ⟨l, rfl, h1, h2⟩ := arg_mks ha
  obtain ⟨n, rfl, h3⟩ := arg_i64 hb t_int
  refine ⟨_, rfl, ?_⟩
  rw [dM_rows]; exact ⟨rfl, h1, h2⟩
theorem lawMM_ok : LawOk Try.prog 8 [22, 22] lawMMG := by
  refine lawOk_2 fun a b ha hb => ?_
  obtain ⟨l, rfl, h1, h2⟩ := arg_mks ha
  obtain ⟨m, rfl, h3, h4⟩ := arg_mks hb
  refine ⟨_, rfl, ?_⟩
  rw [dM_rows, dM_rows]; exact ⟨rfl, rfl, h1, h3, h2, h4⟩
theorem lawM3_ok : LawOk Try.prog 8 [22, 22, 22] lawM3G := by
  refine lawOk_3 fun a b c ha hb hc => ?_
  obtain ⟨l, rfl, h1, h2⟩ := arg_mks ha
  obtain ⟨m, rfl, h3, h4⟩ := arg_mks hb
  obtain ⟨q, rfl, h5, h6⟩ := arg_mks hc
  refine ⟨_, rfl, ?_⟩
  rw [dM_rows, dM_rows, dM_rows]; exact ⟨rfl, rfl, rfl, h1, h3, h5, h2, h4, h6⟩
theorem lawH_ok : LawOk Try.prog 8 [22, 22, 34] lawHG := by
  refine lawOk_3 fun a b c ha hb hc => ?_
  obtain ⟨l, rfl, h1, h2⟩ := arg_mks ha
  obtain ⟨m, rfl, h3, h4⟩ := arg_mks hb
  obtain ⟨q, rfl, h5⟩ := arg_ns hc
  refine ⟨_, rfl, ?_⟩
  rw [dM_rows, dM_rows, dI_rows]; exact ⟨rfl, rfl, h1, h3, h2, h4, rfl, h5⟩
theorem lawV_ok : LawOk Try.prog 8 [22, 34, 46] lawVG := by
  refine lawOk_3 fun a b c ha hb hc => ?_
  obtain ⟨l, rfl, h1, h2⟩ := arg_mks ha
  obtain ⟨m, rfl, h3⟩ := arg_ns hb
  obtain ⟨q, rfl, h5, h6⟩ := arg_cms hc
  refine ⟨_, rfl, ?_⟩
  rw [dM_rows, dI_rows, dC_rows]; exact ⟨rfl, h1, h2, rfl, h3, rfl, h5, h6⟩
end Go.Proofs.Ytjpkgmmmmcgmeaa
