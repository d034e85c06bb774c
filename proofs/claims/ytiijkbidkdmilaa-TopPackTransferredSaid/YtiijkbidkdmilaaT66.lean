/- Walks, printed by wip/gen/walk.py. -/
import Derived.Test.YtiijkbidkdmilaaT65
import Derived.Test.YtiijkbidkdmilaaV5
import Derived.Test.YtiijkbidkdmilaaChecked
import Derived.Test.YtiijkbidkdmilaaV5
set_option linter.all false
set_option maxRecDepth 100000
set_option maxHeartbeats 4000000
namespace Go.Proofs.Ytiijkbidkdmilaa
open Go Go.Vc Go.RowKit
theorem own : ownKnob Try.checked.prog.godebug = none := by kernel_rfl
theorem laidOut : laidOutB Try.checked.prog = true := by kernel_rfl
theorem t_int : isI64 Try.prog 3 = true := by kernel_rfl
theorem t_u8 : isU8 Try.prog 5 = true := by kernel_rfl
theorem t_ints : isSl Try.prog 46 3 = true := by kernel_rfl
theorem t_bytes : isSl Try.prog 28 5 = true := by kernel_rfl
theorem t_sos : isSl Try.prog 22 65 = true := by kernel_rfl
theorem t_ob : isRec Try.prog 48 3 [(0, 1, 3), (1, 1, 46), (2, 1, 28)] = true := by kernel_rfl
theorem t_so : isRec Try.prog 65 4 [(0, 1, 3), (1, 3, 48)] = true := by kernel_rfl
theorem t_st : isRec Try.prog 24 1 [(0, 1, 22)] = true := by kernel_rfl
theorem wt_so {k : Nat} {xs : List (List D)} (h : ∀ x ∈ xs, WT Try.prog (k + 4) 65 x) : ∃ l, xs = rows eO l ∧ smallS l := by
  obtain ⟨l, h, hq⟩ := rows_of (f := eO) (q := fun x => obOk x.ob) fun x hx => by
    obtain ⟨hl, hf⟩ := wt_rec (h x hx) t_so
    obtain ⟨d, ha, _⟩ := wt_i64 (hf 0 1 3 (by simp)) t_int
    obtain ⟨hl2, hf2⟩ := wt_rec (hf 1 3 48 (by simp)) t_ob
    obtain ⟨k1, hb, _⟩ := wt_i64 (hf2 0 1 3 (by simp)) t_int
    obtain ⟨ls, hc, hcl, hcs⟩ := wt_sl (hf2 1 1 46 (by simp)) t_ints
    obtain ⟨l1, rfl, _⟩ := wt_ints hcs t_int
    obtain ⟨us, hd, hdl, hds⟩ := wt_sl (hf2 2 1 28 (by simp)) t_bytes
    obtain ⟨l2, rfl⟩ := wt_bytes hds t_u8
    match x, hl with
    | [u1, u2, u3, u4], _ =>
      simp only [eI, List.drop_zero, List.take_succ_cons, List.take_zero, List.drop_succ_cons, List.cons.injEq, and_true] at ha hb hc hd
      rw [rows_len] at hcl hdl
      exact ⟨⟨d, ⟨k1, l1, l2⟩⟩, by rw [ha, hb, hc, hd]; rfl, hcl, hdl⟩
  exact ⟨l, h, hq⟩
theorem arg_store {c : AV} (h : ArgOk Try.prog 8 24 c) : ∃ S, c = .agg [.d (.sl (rows eO S))] ∧ S.length ≤ 9223372036854775807 ∧ smallS S := by
  obtain ⟨ds, rfl, hl, hf⟩ := arg_rec h t_st
  obtain ⟨xs, ha, h1, h2⟩ := wt_sl (hf 0 1 22 (by simp)) t_sos
  obtain ⟨S, rfl, h3⟩ := wt_so h2
  match ds, hl with
  | [u1], _ =>
    simp only [List.drop_zero, List.take_succ_cons, List.take_zero, List.drop_succ_cons, List.cons.injEq, and_true] at ha
    rw [rows_len] at h1
    exact ⟨S, by rw [ha]; rfl, h1, h3⟩
theorem arg_ns {c : AV} (h : ArgOk Try.prog 8 46 c) : ∃ l : List Int, c = .d (.sl (rows eI l)) ∧ l.length ≤ 9223372036854775807 := by
  obtain ⟨xs, rfl, h1, h2⟩ := arg_sl h t_ints
  obtain ⟨l, rfl, _⟩ := wt_ints h2 t_int
  rw [rows_len] at h1
  exact ⟨l, rfl, h1⟩
theorem b_int : Try.prog.bytesOf 3 = 8 := by kernel_rfl
theorem arg_nsz {c : AV} (h : ArgOk Try.prog 8 46 c) : ∃ l : List Int, c = .d (.sl (rows eI l)) ∧ l.length ≤ 17592186043904 := by
  obtain ⟨xs, rfl, h2, h1⟩ := arg_slz h t_ints
  obtain ⟨l, rfl, _⟩ := wt_ints h2 t_int
  rw [rows_len, b_int] at h1
  exact ⟨l, rfl, by omega⟩

theorem t_bools : isSl Try.prog 25 4 = true := by kernel_rfl
theorem t_bool : isBool Try.prog 4 = true := by kernel_rfl
theorem lawTP_ok : LawOk Try.prog 8 [24, 25, 3] lawTPG := by
  refine lawOk_3 fun a b c ha hb hc => ?_
  obtain ⟨S, rfl, h1, h2⟩ := arg_store ha
  obtain ⟨ys, rfl, hm, hy⟩ := arg_sl hb t_bools
  obtain ⟨bs, rfl⟩ := wt_bools hy t_bool
  obtain ⟨n, rfl, h3⟩ := arg_i64 hc t_int
  refine ⟨_, rfl, ?_⟩
  rw [dO_rows, dB_rows]
  rw [rows_len] at hm
  exact ⟨rfl, h1, h2, rfl, hm⟩
end Go.Proofs.Ytiijkbidkdmilaa
