/- Walks, printed by wip/gen/walk.py. -/
import Derived.Test.YtmbjnkgpcbpclaaGreatT76
import Derived.Test.YtmbjnkgpcbpclaaGreatV5
set_option linter.all false
set_option maxRecDepth 100000
set_option maxHeartbeats 4000000
namespace Go.Proofs.YtmbjnkgpcbpclaaGreat
open Go Go.Vc Go.RowKit
theorem tx_all : ∀ n, Meets Tryz.prog 20 (Spec.pure (txG n))
  | 0 => meets_voidP fun a p r h hp => by
    unfold txG at h
    split at h
    · simp only [Option.some.injEq, Prod.mk.injEq] at h
      obtain ⟨rfl, _⟩ := h
      exact absurd hp.2.2.2 (by simp [shS])
    · cases h
  | n + 1 => txt_step n (tx_all n)
theorem rt_cases (q : List Sn) : (valS q = (0, 0) ∧ ∃ S, shS q 41 (q.length - 1) 0 = some S ∧ S.length ≤ 100000 ∧ 300 < S.length) ∨ (valS q = (0, 0) ∧ ∃ S, shS q 41 (q.length - 1) 0 = some S ∧ S.length ≤ 300) ∨ valS q ≠ (0, 0) := by
  by_cases hv : valS q = (0, 0)
  · obtain ⟨_, h1, h40, _⟩ := val_mp hv
    obtain ⟨S, hS, hSl⟩ := shS_tot hv 41 (q.length - 1) 0 (by omega) (by omega)
    have hSz := (szM_le hv (i := q.length - 1) (by omega)).2
    by_cases hl : 300 < S.length
    · exact .inl ⟨hv, S, hS, by omega, hl⟩
    · exact .inr (.inl ⟨hv, S, hS, by omega⟩)
  · exact .inr (.inr hv)
def lawRTG : List AV → Option (Prop × AV)
  | [.agg [.d (.sl ys)]] => some (ys = rows eSn (dSn ys) ∧ (dSn ys).length ≤ 9223372036854775807 ∧ bigS (dSn ys), .d (.bool true))
  | _ => none

def E_txA : Env Tryz.prog := E_exq.add 20 (Spec.pure (txG 41)) (tx_all 41) (by kernel_rfl)
end Go.Proofs.YtmbjnkgpcbpclaaGreat
