/- Walks, printed by wip/gen/walk.py. -/
import Derived.Test.YtlbjffdaooadoaaDoorT33
import Derived.Test.YtlbjffdaooadoaaDoorV5
set_option linter.all false
set_option maxRecDepth 100000
set_option maxHeartbeats 4000000
namespace Go.Proofs.YtlbjffdaooadoaaDoor
open Go Go.Vc Go.RowKit
theorem rt_all : ∀ n, Meets Tryd.prog 32 (Spec.pure (rtG n))
  | 0 => meets_voidP fun a p r h hp => by
    unfold rtG at h
    split at h
    · simp only [Option.some.injEq, Prod.mk.injEq] at h
      obtain ⟨rfl, _⟩ := h
      exact absurd hp.2.2.2 (by simp [shQ])
    · cases h
  | n + 1 => rvt_step n (rt_all n)
def lawQG : List AV → Option (Prop × AV)
  | [.agg [.d (.sl xs)]] => some (xs = rows eN (dN xs) ∧ (dN xs).length ≤ 9223372036854775807, .d (.bool true))
  | _ => none

def E_rtA : Env Tryd.prog := E_rvw.add 32 (Spec.pure (rtG 41)) (rt_all 41) (by kernel_rfl)
end Go.Proofs.YtlbjffdaooadoaaDoor
