/- Walks, printed by wip/gen/walk.py. -/
import Derived.Test.YtmbjnkgpcbpclaaGreatT54
import Derived.Test.YtmbjnkgpcbpclaaGreatV5
set_option linter.all false
set_option maxRecDepth 100000
set_option maxHeartbeats 4000000
namespace Go.Proofs.YtmbjnkgpcbpclaaGreat
open Go Go.Vc Go.RowKit
def E3 (q : List Nd) (i : Nat) : List Nat := (q.take i).map fun n => ar n.kd
theorem IE {q : List Nd} {i : Nat} (h : i ≤ q.length) : (E3 q i).length = i := by unfold E3; rw [List.length_map, List.length_take]; omega
theorem Sr {q : List Nd} {i : Nat} {x : Nd} (h : q[i]? = some x) : E3 q (i + 1) = E3 q i ++ [ar x.kd] := by unfold E3; rw [List.take_add_one, h]; simp
theorem Gq {q : List Nd} {i : Nat} : ∀ a ∈ E3 q i, a ≤ 2 := by
  intro a ha
  obtain ⟨n, _, rfl⟩ := List.mem_map.1 ha
  rcases Kx n.kd with ⟨_, h⟩ | ⟨_, _, h⟩ | ⟨_, h⟩ <;> omega
theorem Oa {q : List Nd} {i j : Nat} (hi : i ≤ q.length) (h : j < i) : (E3 q i).getD j 0 = ar (q.getD j default).kd := by
  obtain ⟨x, hx⟩ : ∃ x, q[j]? = some x := ⟨_, List.getElem?_eq_getElem (by omega)⟩
  unfold E3
  rw [List.getD_eq_getElem?_getD, List.getD_eq_getElem?_getD, List.getElem?_map, List.getElem?_take, if_pos h, hx]; rfl
theorem NA {q : List Nd} {i : Nat} (hi : i ≤ q.length) : ∀ {j : Nat}, j ≤ i → Eo (E3 q i) j = EI q j
  | 0, _ => rfl
  | j + 1, h => by
    show Eo (E3 q i) j ++ [NB (Eo (E3 q i) j) ((E3 q i).getD j 0)] = EI q j ++ [NB (EI q j) (ar (q.getD j default).kd)]
    rw [NA hi (by omega), Oa hi (by omega)]
theorem OU {q : List Nd} {i : Nat} (h : G6 q i = 0) : JN (EI q i) (ar (q.getD i default).kd) = false := by
  unfold G6 at h
  split at h
  · cases h
  · split at h
    · cases h
    · split at h
      · cases h
      · rename_i h3; simpa using h3
theorem Yf {q : List Nd} {i m : Nat} (hm : m ≤ i) (hi : i ≤ q.length) (h : ∀ j, j < m → G6 q j = 0) : Xf (E3 q i) m := by
  intro j hj
  rw [NA hi (by omega), Oa hi (by omega)]
  exact OU (h j hj)
theorem Wm {q : List Nd} {i : Nat} (hi : i + 1 ≤ q.length) : EQ (E3 q (i + 1)) = JN (EI q i) (ar (q.getD i default).kd) := by
  have hl := IE hi
  unfold EQ
  rw [hl, Nat.add_sub_cancel, NA hi (by omega), Oa hi (by omega)]
  have : decide (E3 q (i + 1) ≠ []) = true := decide_eq_true (fun h => by rw [h] at hl; cases hl)
  rw [this, Bool.true_and]
theorem Uw {q : List Nd} {i : Nat} (hi : i ≤ q.length) (h : ∀ j, j < i → G6 q j = 0) : ∀ p, p < i → (EI q i).getD p 0 ≤ p + 1 := by
  intro p hp
  have := Pf (az := E3 q i) Gq (Yf (Nat.le_refl _) hi h) p hp
  rwa [NA hi (Nat.le_refl _)] at this
theorem PZ {q : List Nd} {i p : Nat} (h : p < i) : (EI q (i + 1)).getD p 0 = (EI q i).getD p 0 := by
  show (EI q i ++ [_]).getD p 0 = (EI q i).getD p 0
  simp only [List.getD_eq_getElem?_getD]
  rw [List.getElem?_append_left (by rw [Ec]; exact h)]
theorem Ys {q : List Nd} {i : Nat} (hi : i ≤ q.length) (hb : EQ (E3 q i) = false) : Uv (E3 q i) = -1 ∧ W3 (E3 q i) = EI q i := by
  refine ⟨by unfold Uv; rw [if_neg (by rw [hb]; simp)], ?_⟩
  unfold W3
  rw [if_neg (by rw [hb]; simp), IE hi, NA hi (Nat.le_refl _)]
theorem Xs {q : List Nd} {i : Nat} (hi : i + 1 ≤ q.length) (hb : EQ (E3 q (i + 1)) = true) : Uv (E3 q (i + 1)) = (i : Int) := by
  unfold Uv
  rw [if_pos hb, IE hi]; omega
theorem UZ {q : List Nd} (h1 : 1 ≤ q.length) (h : ∀ j, j < q.length → G6 q j = 0) : EQ (E3 q q.length) = false := by
  obtain ⟨n, hn⟩ : ∃ n, q.length = n + 1 := ⟨q.length - 1, by omega⟩
  rw [hn, Wm (by omega)]
  exact OU (h n (by omega))
theorem Yg {q : List Nd} {i a : Nat} (h40 : q.length ≤ 40) (hi : i + 1 ≤ q.length) (h : ∀ j, j < i → G6 q j = 0) (ha : a ≤ 2) (hb : JN (EI q i) a = false) :
    (((a : Nat) : Int) = 2 → 1 ≤ (i : Int) ∧ (EI q (i + 1)).getD (((i : Nat) : Int).toNat - 1) 0 ≤ 1000) ∧
    (if ((a : Nat) : Int) = 1 then (i : Int) - 1 else if ((a : Nat) : Int) = 2 then (i : Int) - 1 - ((EI q (i + 1)).getD (((i : Nat) : Int).toNat - 1) 0 : Nat) else 0) = JV (EI q i) a ∧
    (if ((a : Nat) : Int) = 2 then (i : Int) - 1 else 0) = Mh (EI q i) a := by
  have hl := Ec q i
  have hg := LX hb
  rw [hl] at hg
  have hit : ((i : Nat) : Int).toNat - 1 = i - 1 := by omega
  rw [hit]
  unfold JV Mh
  rw [hl]
  match a, ha with
  | 0, _ => exact ⟨fun h => by omega, by simp, by simp⟩
  | 1, _ => exact ⟨fun h => by omega, by simp, by simp⟩
  | 2, _ =>
    have h1 := hg.1 (by omega)
    have hle := Uw (q := q) (i := i) (by omega) h (i - 1) (by omega)
    rw [PZ (by omega)]
    exact ⟨fun _ => ⟨by omega, by omega⟩, by simp, by simp⟩

theorem DZ {q : List Sn} {i : Nat} {c : Int} (h1 : 1 ≤ q.length) (h2 : q.length ≤ 40) (hi : i < q.length) (h : ∀ j, j < i → BR q j = 0) (hc : BR q i = c) (h0 : c ≠ 0) : Ki q = (c, (i : Int)) := by
  have hf := Bh (f := BR q) (g := iI) (i := i) (by rw [hc]; exact h0) h hi
  unfold Ki
  rw [if_neg (by rw [Bool.and_eq_false_iff, decide_eq_false_iff_not, decide_eq_false_iff_not]; omega), hf, hc, if_pos h0]; rfl
theorem Uf {q : List Sn} (h1 : 1 ≤ q.length) (h2 : q.length ≤ 40) (h : ∀ j, j < q.length → BR q j = 0) : Ki q = if (CI q q.length).getD (q.length - 1) 0 ≠ q.length then (5, -1) else (0, 0) := by
  unfold Ki
  rw [if_neg (by rw [Bool.and_eq_false_iff, decide_eq_false_iff_not, decide_eq_false_iff_not]; omega), Cc h, if_neg (by simp)]
theorem LP {q : List Sn} {i : Nat} (hi : i < q.length) (h : BR q i = 0) : G6 (D4 q) i = 0 := by
  rw [Nq hi] at h; exact (PX h).1
def Hz : List AV → Option (Prop × AV)
  | [.agg [.d (.sl xs)]] => some (xs = rows DR (Cz xs) ∧ (Cz xs).length ≤ 9223372036854775807 ∧ JZ (Cz xs), .agg [.d (.int .i64 (Ki (Cz xs)).1), .d (.int .i64 (Ki (Cz xs)).2)])
  | _ => none
end Go.Proofs.YtmbjnkgpcbpclaaGreat
