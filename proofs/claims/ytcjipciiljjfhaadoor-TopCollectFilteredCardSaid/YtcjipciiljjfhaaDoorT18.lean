/- Walks, printed by wip/gen/walk.py. -/
import Derived.Test.YtcjipciiljjfhaaDoorT17
import Derived.Test.YtcjipciiljjfhaaDoorV5
set_option linter.all false
set_option maxRecDepth 100000
set_option maxHeartbeats 4000000
namespace Go.Proofs.YtcjipciiljjfhaaDoor
open Go Go.Vc Go.RowKit
def dgsG : List AV → Option (Prop × AV)
  | [.agg [.d (.sl xs)]] => some (xs = rows eO (dO xs) ∧ (dO xs).length ≤ 1000000000, .d (.sl (rows eI (dgs (dO xs)))))
  | _ => none
def chs (S : List SO) (b : List Bool) (w : Bool) : List SO := ((S.zip b).filter fun p => decide (p.2 = w)).map (·.1)
def chsG : List AV → Option (Prop × AV)
  | [.agg [.d (.sl xs)], .d (.sl bs), .d (.bool w)] => some (xs = rows eO (dO xs) ∧ bs = rows eB (dB bs) ∧ (dB bs).length = (dO xs).length ∧ (dO xs).length ≤ 1000000000, .agg [.d (.sl (rows eO (chs (dO xs) (dB bs) w)))])
  | _ => none
theorem chs_snoc {S : List SO} {b : List Bool} {w c : Bool} {i : Nat} {x : SO} (h1 : S[i]? = some x) (h2 : b[i]? = some c) : chs (S.take (i + 1)) (b.take (i + 1)) w = chs (S.take i) (b.take i) w ++ if c = w then [x] else [] := by
  unfold chs
  have e : ∀ j, (S.take j).zip (b.take j) = (S.zip b).take j := fun j => (List.take_zipWith (f := Prod.mk)).symm
  rw [e, e, List.take_add_one, (show (S.zip b)[i]? = some (x, c) from List.getElem?_zip_eq_some.2 ⟨h1, h2⟩), List.filter_append, List.map_append]
  by_cases h : c = w <;> simp [h]
theorem chs_len (S : List SO) (b : List Bool) (w : Bool) (i : Nat) : (chs (S.take i) (b.take i) w).length ≤ i := by
  unfold chs; rw [List.length_map]
  exact Nat.le_trans (List.length_filter_le ..) (by rw [List.length_zip, List.length_take]; omega)
def mkV (S : List SO) (R : List Int) : List Bool := S.map fun x => decide (x.dg ∈ keysM (reachM S R))
def markedG : List AV → Option (Prop × AV)
  | [.agg [.d (.sl xs)], .d (.sl rs)] => some (xs = rows eO (dO xs) ∧ ValS (dO xs) ∧ rs = rows eI (dI rs) ∧ (dI rs).length ≤ 1000000000, .d (.sl (rows eB (mkV (dO xs) (dI rs)))))
  | _ => none
theorem takeS_z (S : List SO) : S.take 0 = [] := rfl

theorem eI_snoc (l : List Int) (d : Int) : rows eI l ++ [[.int .i64 d]] = rows eI (l ++ [d]) := by simp [rows, eI]
theorem takeDg_len (S : List SO) : (dgs S).take S.length = dgs S := List.take_of_length_le (by rw [dgs_len]; exact Nat.le_refl _)
end Go.Proofs.YtcjipciiljjfhaaDoor
