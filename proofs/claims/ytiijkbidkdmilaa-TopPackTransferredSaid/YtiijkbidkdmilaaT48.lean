/- Walks, printed by wip/gen/walk.py. -/
import Derived.Test.YtiijkbidkdmilaaT47
import Derived.Test.YtiijkbidkdmilaaV5
set_option linter.all false
set_option maxRecDepth 100000
set_option maxHeartbeats 4000000
namespace Go.Proofs.Ytiijkbidkdmilaa
open Go Go.Vc Go.RowKit
def countG : List AV → Option (Prop × AV)
  | [.d (.sl xs)] => some (xs.length ≤ 1000000000, .d (.int .i64 (((xs.length + 15) / 16 : Nat) : Int)))
  | _ => none
theorem tdiv16 (n : Nat) : ((n : Int) + 16 - 1).tdiv 16 = (((n + 15) / 16 : Nat) : Int) := by
  rw [show (n : Int) + 16 - 1 = ((n + 15 : Nat) : Int) by omega]
  rfl
def frameOfG : List AV → Option (Prop × AV)
  | [.d (.sl xs), .d (.int .i64 i)] => some (Rect 1 xs ∧ xs.length ≤ 1000000000 ∧ 0 ≤ i ∧ 16 * i ≤ xs.length, .d (.sl ((xs.drop (16 * i.toNat)).take 16)))
  | _ => none
/-- without: the row without one element, in a block of its own. -/
def withoutG : GFun
  | [.d (.sl xs), .d (.int .i64 n)], [] => some (xs = rows eI (dI xs) ∧ 0 ≤ n ∧ n < (dI xs).length ∧ (dI xs).length ≤ 1000000000, .sl 0 0 ((dI xs).eraseIdx n.toNat).length, [some (.vec 3 1 (rows eI ((dI xs).eraseIdx n.toNat)))])
  | _, _ => none

theorem count_meets : Meets Try.prog 11 (Spec.pure countG) := by
 refine meets_fun (E_frames.at_ 8) Try.func11 rfl rfl rfl ?_
 intro args p r hg hp
 unfold countG at hg
 split at hg
 ·rename_i xs
  simp only [Option.some.injEq, Prod.mk.injEq] at hg
  obtain ⟨rfl, rfl⟩ := hg
  have hT : (E_frames).X = T := rfl
  have hx0 := @Try.results11
  have hx := hx0
  refine ⟨by rfl, ?_⟩
  intro F W0 hnp hmk
  refine vc_seq_k fun N1 h1 => ?_
  refine u_reg ?_
  try refine lg_mk ?_
  refine u_mv ?_
  refine lg_nil ?_
  refine h1 _ ?_; clear h1; try clear N1
  refine vc_seq_k fun N2 h2 => ?_
  refine u_reg ?_
  try refine lg_mk ?_
  refine u_mv ?_
  refine u_ln ?_
  refine u_bn ?_
  refine u_bn ?_
  refine u_bn (hq := by (first | (refine ⟨by decide, ?_⟩; rw [tdiv16]; unfold inI64; omega) | exact sd_)) ?_
  refine u_mv ?_
  refine lg_nil ?_
  refine h2 _ ?_; clear h2; try clear N2
  refine vc_ret ?_
  try simp only [k_rules]
  refine fin2_ ?_
  (repeat' apply And.intro) <;> (first | (first | rfl | exact Or.inl rfl | trivial | (left; rw [tdiv16]; done) | omega | (simp; done)) | exact cl_)
 ·cases hg

def E_count : Env Try.prog := E_frames.add 11 (Spec.pure countG) count_meets (by kernel_rfl)
end Go.Proofs.Ytiijkbidkdmilaa
