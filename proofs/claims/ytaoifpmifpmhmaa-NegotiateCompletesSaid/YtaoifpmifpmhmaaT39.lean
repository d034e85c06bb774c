/- Walks, printed by wip/gen/walk.py. -/
import Derived.Test.YtaoifpmifpmhmaaT38
import Derived.Test.YtaoifpmifpmhmaaV4
set_option linter.all false
set_option maxRecDepth 100000
set_option maxHeartbeats 4000000
namespace Go.Proofs.Ytaoifpmifpmhmaa
open Go Go.Vc Go.RowKit
theorem vec_com (l : List Cm) (ss : List Bool) (n : Nat) : List.replicate n [D.bool false] = rows eB (vec n (comV l ss [])) := by
  rw [vec_rep]; exact congrArg (rows eB) (vec_ext fun k _ => by simp [comV, mark])
theorem sent_eq {l : List Cm} {ss rs : List Bool} {ws : List Int} {r : Nat} (h : endR l ss rs = r) : (lst l.length fun k => ofB l ws k && !((vec l.length (comV l ss (rdsT l ss rs r).1)).getD k false)) = sentR l ss rs ws := by
  unfold sentR; rw [h]
  exact lst_ext fun k hk => by rw [getD_of (vec_get hk)]
theorem shl_size {r : Nat} (h : r < 4) : IntKind.i64.wrap (1 * 2 ^ min ((r : Int)).toNat IntKind.i64.bits) = ((sizeR r : Nat) : Int) := by
  have : r = 0 ∨ r = 1 ∨ r = 2 ∨ r = 3 := by omega
  rcases this with rfl | rfl | rfl | rfl <;> rfl
theorem size_16 {r : Nat} (h : ¬r < 4) : (16 : Int) = ((sizeR r : Nat) : Int) := by unfold sizeR; rw [if_neg h]; rfl
theorem bat_len (l : List Cm) (ss rs : List Bool) (r : Nat) : (batR l ss rs r).length ≤ 16 := by
  have := sizeR_bnd r
  have := List.length_take_le (sizeR r) ((orderN l l.length).filter (openB l ss rs (rdsT l ss rs r).1))
  unfold batR batch; omega
def roundsG : List AV → Option (Prop × AV)
  | [.d (.sl xs), .d (.sl ss), .d (.sl rs)] => some (xs = rows eC (dC xs) ∧ ss = rows eB (dB ss) ∧ rs = rows eB (dB rs) ∧ Valid (dC xs) ∧ (dB ss).length = (dC xs).length ∧ (dB rs).length = (dC xs).length, .d (.sl (rows (eL eI) (rdsT (dC xs) (dB ss) (dB rs) (endR (dC xs) (dB ss) (dB rs))).2)))
  | _ => none
end Go.Proofs.Ytaoifpmifpmhmaa
