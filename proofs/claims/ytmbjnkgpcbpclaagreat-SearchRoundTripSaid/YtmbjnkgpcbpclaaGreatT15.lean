/- Walks, printed by wip/gen/walk.py. -/
import Derived.Test.YtmbjnkgpcbpclaaGreatT14
import Derived.Test.YtmbjnkgpcbpclaaGreatV5
set_option linter.all false
set_option maxRecDepth 100000
set_option maxHeartbeats 4000000
namespace Go.Proofs.YtmbjnkgpcbpclaaGreat
open Go Go.Vc Go.RowKit
def neP (P : List Post) : Prop := ∀ p ∈ P, p.2 ≠ []
def g3P (P : List Post) : Prop := ∀ p ∈ P, p.1.length = 3
structure ValP (ts : List Int) (P : List Post) : Prop where
  tlen : ts.length ≤ 20
  trng : ∀ x ∈ ts, 0 ≤ x ∧ x < 20
  tsort : ts.Pairwise (· < ·)
  good : GoodP P
  g3 : g3P P
  ne : neP P
  sub : ∀ p ∈ P, ∀ x ∈ p.2, x ∈ ts
theorem firstF_zero {f : Nat → Int} {g : Nat → Int} : ∀ {n}, (firstF f g n).1 = 0 → ∀ j, j < n → f j = 0
  | 0, _, j, hj => by omega
  | n + 1, h, j, hj => by
    unfold firstF at h
    split at h
    · rename_i h1; exact absurd h h1
    · rename_i h1
      split at h
      · rename_i h2; exact absurd h h2
      · rename_i h2
        by_cases e : j = n
        · subst e; simpa using h2
        · exact firstF_zero (n := n) (by simpa using h1) j (by omega)
end Go.Proofs.YtmbjnkgpcbpclaaGreat
