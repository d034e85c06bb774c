/- Walks, printed by wip/gen/walk.py. -/
import Derived.Test.YtmbjnkgpcbpclaaGreatT72
import Derived.Test.YtmbjnkgpcbpclaaGreatV5
set_option linter.all false
set_option maxRecDepth 100000
set_option maxHeartbeats 4000000
namespace Go.Proofs.YtmbjnkgpcbpclaaGreat
open Go Go.Vc Go.RowKit
def hdB (r : Bs) : UInt8 := (r.dropWhile (· = 32)).headD 0
def flw (m : Nat) (r : Bs) : Prop := (m ≤ 1 → hdB r ≠ 38) ∧ (m = 0 → hdB r ≠ 124)
def stN (q : List Sn) (i : Nat) : Nat := i + 1 - szI (mpQ q) i
def RA (q : List Sn) (i m : Nat) (s : Bs) (K : Nat) : Prop := ∀ t f a r, K ≤ f → t.drop (skS t a) = s ++ r → flw m r → ∃ a', rdP t f m a (q.take (stN q i)) = some (a', q.take (i + 1), i) ∧ skS t a' = skS t (skS t a + s.length)
def RB (q : List Sn) (i m : Nat) (s : Bs) (K : Nat) : Prop := ∀ t f g a r, K ≤ f → s.length < g → t.drop (skS t a) = s ++ r → flw (m + 1) r →
  ∃ a' g', bndR (rdP t f (m + 1) a (q.take (stN q i))) (fun a' ns' x => lpR (rdP t f (m + 1)) t m g a' ns' x) = lpR (rdP t f (m + 1)) t m g' a' (q.take (i + 1)) i ∧ g ≤ g' + s.length ∧ skS t a' = skS t (skS t a + s.length)
theorem RA.mono {q : List Sn} {i m : Nat} {s : Bs} {K K' : Nat} (h : RA q i m s K) (hk : K ≤ K') : RA q i m s K' := fun t f a r hf => h t f a r (by omega)
theorem RB.mono {q : List Sn} {i m : Nat} {s : Bs} {K K' : Nat} (h : RB q i m s K) (hk : K ≤ K') : RB q i m s K' := fun t f g a r hf => h t f g a r (by omega)
end Go.Proofs.YtmbjnkgpcbpclaaGreat
