/- Walks, printed by wip/gen/walk.py. -/
import Derived.Test.YtiijkbidkdmilaaT13
import Derived.Test.YtiijkbidkdmilaaV5
set_option linter.all false
set_option maxRecDepth 100000
set_option maxHeartbeats 4000000
namespace Go.Proofs.Ytiijkbidkdmilaa
open Go Go.Vc Go.RowKit
abbrev Ev := Int × Int
def eE (e : Ev) : List D := [.int .i64 e.1, .int .i64 e.2]
theorem rect_eE (l : List Ev) : Rect 2 (rows eE l) := rows_rect (f := eE) (fun _ => rfl) l

/-- The events of a plan, out of what is left: losses, frames, room. -/
def plan : List Bool → Nat → Nat → List Ev × Bool
  | _, 0, _ => ([], true)
  | true :: r, left + 1, room => if room < 2 then ([], false) else ((1, 0) :: (3, 0) :: (plan r (left + 1) (room - 2)).1, (plan r (left + 1) (room - 2)).2)
  | false :: r, left + 1, room => if room < 3 then ([], false) else ((1, 0) :: (2, 0) :: (5, 0) :: (plan r left (room - 3)).1, (plan r left (room - 3)).2)
  | [], left + 1, room => if room < 3 then ([], false) else ((1, 0) :: (2, 0) :: (5, 0) :: (plan [] left (room - 3)).1, (plan [] left (room - 3)).2)

def planOfG : List AV → Option (Prop × AV)
  | [.d (.int .i64 n), .d (.sl xs)] => some (xs = rows eB (dB xs) ∧ xs.length ≤ 9223372036854775807 ∧ inI64 n, .tup [.d (.sl (rows eE (plan (dB xs) n.toNat 200).1)), .d (.bool (plan (dB xs) n.toNat 200).2)])
  | _ => none
theorem drop_cons {l : List Bool} {k : Nat} {b : Bool} (h : l[k]? = some b) : l.drop k = b :: l.drop (k + 1) := by
  obtain ⟨h1, h2⟩ := List.getElem?_eq_some_iff.1 h
  rw [← h2]; exact List.drop_eq_getElem_cons h1

theorem plan_zero (l : List Bool) (r : Nat) : plan l 0 r = ([], true) := by cases l <;> simp [plan]
theorem plan_t {l : List Bool} {k left room : Nat} (h : l[k]? = some true) (hl : 0 < left) : plan (l.drop k) left room = if room < 2 then ([], false) else ((1, 0) :: (3, 0) :: (plan (l.drop (k + 1)) left (room - 2)).1, (plan (l.drop (k + 1)) left (room - 2)).2) := by
  rw [drop_cons h]
  cases left with
  | zero => omega
  | succ left => rw [plan]
theorem plan_f {l : List Bool} {k left room : Nat} (h : l[k]? = some false ∨ l[k]? = none) (hl : 0 < left) : plan (l.drop k) left room = if room < 3 then ([], false) else ((1, 0) :: (2, 0) :: (5, 0) :: (plan (l.drop (k + 1)) (left - 1) (room - 3)).1, (plan (l.drop (k + 1)) (left - 1) (room - 3)).2) := by
  cases left with
  | zero => omega
  | succ left =>
    rcases h with h | h
    · rw [drop_cons h, plan]; rfl
    · have hk : l.length ≤ k := by simpa using h
      rw [List.drop_eq_nil_of_le hk, List.drop_eq_nil_of_le (by omega), plan]; rfl
end Go.Proofs.Ytiijkbidkdmilaa
