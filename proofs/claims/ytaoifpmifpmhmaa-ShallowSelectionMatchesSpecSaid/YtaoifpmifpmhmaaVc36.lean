/- The Vc layer: a sequence cut in the middle: what comes behind is walked once, whatever ways lead there. -/
import Derived.Test.YtaoifpmifpmhmaaVc35
set_option linter.all false
namespace Go.Vc
open Go Go.RowKit
section
variable [Far] {P : Program} {E : Env P} {W0 : World} {M0 : Nat → Prop}
theorem vc_seq_m {σ : Type} (inv : σ → Prop) (fl : σ → List (Nat × AV)) (bl : σ → List (Option Box)) {np : Nat} (hnp : Far.np = np) {x y : Code} {st : St} {K : Exit → St → Prop}
    (hy : ∀ s, inv s → VC E W0 M0 y (mkSt (fl s) (bl s)) K) (hx : ∀ N : St → Prop, (∀ st', (∃ s, inv s ∧ ∃ ρ : Ren, subOk np ρ st' (fl s) (bl s)) → N st') → VC E W0 M0 x st (thenK N K)) : VC E W0 M0 (.seq x y) st K :=
  vc_seq (hx _ fun st' ⟨s, h1, ρ, h2⟩ => vc_cut hnp (fl s) (bl s) ρ h2 (hy s h1))
end
end Go.Vc
