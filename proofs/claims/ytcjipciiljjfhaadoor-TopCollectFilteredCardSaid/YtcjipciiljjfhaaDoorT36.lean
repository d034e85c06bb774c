/- Walks, printed by wip/gen/walk.py. -/
import Derived.Test.YtcjipciiljjfhaaDoorT35
import Derived.Test.YtcjipciiljjfhaaDoorV5
set_option linter.all false
set_option maxRecDepth 100000
set_option maxHeartbeats 4000000
namespace Go.Proofs.YtcjipciiljjfhaaDoor
open Go Go.Vc Go.RowKit
def dS (xs : List (List D)) : List (List UInt8) := xs.map fun x => match x with | [.str s] => s | _ => []
theorem dS_rows (l : List (List UInt8)) : dS (rows eS l) = l := by
  simp only [dS, rows, List.map_map]
  conv => rhs; rw [← List.map_id l]
  exact List.map_congr_left fun c _ => rfl
theorem rect_eS (l : List (List UInt8)) : Rect 1 (rows eS l) = True := eq_true (rows_rect (f := eS) (fun _ => rfl) l)
def cpsG : List AV → Option (Prop × AV)
  | [.d (.str s)] => some (s.length ≤ 1000000, .d (.sl (rows eS (cps s))))
  | _ => none
def strsG : List AV → Option (Prop × AV)
  | [.d (.sl xs), .d (.sl ys)] => some (xs = rows eS (dS xs) ∧ ys = rows eS (dS ys) ∧ (dS xs).length ≤ 9223372036854775807 ∧ (dS ys).length ≤ 9223372036854775807, .d (.bool (decide (dS xs = dS ys))))
  | _ => none
def cnfRG : List AV → Option (Prop × AV)
  | [.d (.str a), .d (.str b)] => some (a.length ≤ 60 ∧ b.length ≤ 60, .d (.bool (cnfB a b)))
  | _ => none
theorem eS_snoc (l : List (List UInt8)) (x : List UInt8) : rows eS l ++ [[.str x]] = rows eS (l ++ [x]) := by simp [rows, eS]
theorem drop_at {s : List UInt8} {i : Nat} {c : UInt8} (h : s[i]? = some c) : s.drop i = c :: s.drop (i + 1) := by
  obtain ⟨h1, h2⟩ := List.getElem?_eq_some_iff.1 h
  rw [← h2]; exact List.drop_eq_getElem_cons h1
end Go.Proofs.YtcjipciiljjfhaaDoor
