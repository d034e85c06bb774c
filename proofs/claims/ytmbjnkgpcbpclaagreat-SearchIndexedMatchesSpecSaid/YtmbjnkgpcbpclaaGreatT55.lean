import Derived.Test.YtmbjnkgpcbpclaaGreatT54
set_option linter.all false
set_option maxRecDepth 100000
set_option maxHeartbeats 4000000
namespace Go.Proofs.YtmbjnkgpcbpclaaGreat
open Go Go.Vc Go.RowKit
def Fe (q : List Nd) (i : Nat) : List Nat := (q.take i).map fun n => ar n.kd
theorem J6 {q : List Nd} {i : Nat} (h : i ≤ q.length) : (Fe q i).length = i := by unfold Fe; rw [List.length_map, List.length_take]; omega
theorem Uc {q : List Nd} {i : Nat} {x : Nd} (h : q[i]? = some x) : Fe q (i + 1) = Fe q i ++ [ar x.kd] := by unfold Fe; rw [List.take_add_one, h]; simp
theorem GP {q : List Nd} {i : Nat} : ∀ a ∈ Fe q i, a ≤ 2 := by
  intro a ha
  obtain ⟨n, _, rfl⟩ := List.mem_map.1 ha
  rcases Lr n.kd with ⟨_, h⟩ | ⟨_, _, h⟩ | ⟨_, h⟩ <;> omega
theorem Py {q : List Nd} {i j : Nat} (hi : i ≤ q.length) (h : j < i) : (Fe q i).getD j 0 = ar (q.getD j default).kd := by
  obtain ⟨x, hx⟩ : ∃ x, q[j]? = some x := ⟨_, List.getElem?_eq_getElem (by omega)⟩
  unfold Fe
  rw [List.getD_eq_getElem?_getD, List.getD_eq_getElem?_getD, List.getElem?_map, List.getElem?_take, if_pos h, hx]; rfl
theorem OY {q : List Nd} {i : Nat} (hi : i ≤ q.length) : ∀ {j : Nat}, j ≤ i → EN (Fe q i) j = F3 q j
  | 0, _ => rfl
  | j + 1, h => by
    show EN (Fe q i) j ++ [OZ (EN (Fe q i) j) ((Fe q i).getD j 0)] = F3 q j ++ [OZ (F3 q j) (ar (q.getD j default).kd)]
    rw [OY hi (by omega), Py hi (by omega)]
theorem Qs {q : List Nd} {i : Nat} (h : He q i = 0) : KG (F3 q i) (ar (q.getD i default).kd) = false := by
  unfold He at h
  split at h
  · cases h
  · split at h
    · cases h
    · split at h
      · cases h
      · rename_i h3; simpa using h3
theorem ZA {q : List Nd} {i m : Nat} (hm : m ≤ i) (hi : i ≤ q.length) (h : ∀ j, j < m → He q j = 0) : YD (Fe q i) m := by
  intro j hj
  rw [OY hi (by omega), Py hi (by omega)]
  exact Qs (h j hj)
theorem XL {q : List Nd} {i : Nat} (hi : i + 1 ≤ q.length) : FB (Fe q (i + 1)) = KG (F3 q i) (ar (q.getD i default).kd) := by
  have hl := J6 hi
  unfold FB
  rw [hl, Nat.add_sub_cancel, OY hi (by omega), Py hi (by omega)]
  have : decide (Fe q (i + 1) ≠ []) = true := decide_eq_true (fun h => by rw [h] at hl; cases hl)
  rw [this, Bool.true_and]
theorem Wb {q : List Nd} {i : Nat} (hi : i ≤ q.length) (h : ∀ j, j < i → He q j = 0) : ∀ p, p < i → (F3 q i).getD p 0 ≤ p + 1 := by
  intro p hp
  have := Q3 (az := Fe q i) GP (ZA (Nat.le_refl _) hi h) p hp
  rwa [OY hi (Nat.le_refl _)] at this
theorem RF {q : List Nd} {i p : Nat} (h : p < i) : (F3 q (i + 1)).getD p 0 = (F3 q i).getD p 0 := by
  show (F3 q i ++ [_]).getD p 0 = (F3 q i).getD p 0
  simp only [List.getD_eq_getElem?_getD]
  rw [List.getElem?_append_left (by rw [E9]; exact h)]
theorem ZN {q : List Nd} {i : Nat} (hi : i ≤ q.length) (hb : FB (Fe q i) = false) : Wa (Fe q i) = -1 ∧ Ya (Fe q i) = F3 q i := by
  refine ⟨by unfold Wa; rw [if_neg (by rw [hb]; simp)], ?_⟩
  unfold Ya
  rw [if_neg (by rw [hb]; simp), J6 hi, OY hi (Nat.le_refl _)]
theorem YQ {q : List Nd} {i : Nat} (hi : i + 1 ≤ q.length) (hb : FB (Fe q (i + 1)) = true) : Wa (Fe q (i + 1)) = (i : Int) := by
  unfold Wa
  rw [if_pos hb, J6 hi]; omega
theorem WF {q : List Nd} (h1 : 1 ≤ q.length) (h : ∀ j, j < q.length → He q j = 0) : FB (Fe q q.length) = false := by
  obtain ⟨n, hn⟩ : ∃ n, q.length = n + 1 := ⟨q.length - 1, by omega⟩
  rw [hn, XL (by omega)]
  exact Qs (h n (by omega))
theorem ZB {q : List Nd} {i a : Nat} (h40 : q.length ≤ 40) (hi : i + 1 ≤ q.length) (h : ∀ j, j < i → He q j = 0) (ha : a ≤ 2) (hb : KG (F3 q i) a = false) :
    (((a : Nat) : Int) = 2 → 1 ≤ (i : Int) ∧ (F3 q (i + 1)).getD (((i : Nat) : Int).toNat - 1) 0 ≤ 1000) ∧
    (if ((a : Nat) : Int) = 1 then (i : Int) - 1 else if ((a : Nat) : Int) = 2 then (i : Int) - 1 - ((F3 q (i + 1)).getD (((i : Nat) : Int).toNat - 1) 0 : Nat) else 0) = KL (F3 q i) a ∧
    (if ((a : Nat) : Int) = 2 then (i : Int) - 1 else 0) = Nk (F3 q i) a := by
  have hl := E9 q i
  have hg := MZ hb
  rw [hl] at hg
  have hit : ((i : Nat) : Int).toNat - 1 = i - 1 := by omega
  rw [hit]
  unfold KL Nk
  rw [hl]
  match a, ha with
  | 0, _ => exact ⟨fun h => by omega, by simp, by simp⟩
  | 1, _ => exact ⟨fun h => by omega, by simp, by simp⟩
  | 2, _ =>
    have h1 := hg.1 (by omega)
    have hle := Wb (q := q) (i := i) (by omega) h (i - 1) (by omega)
    rw [RF (by omega)]
    exact ⟨fun _ => ⟨by omega, by omega⟩, by simp, by simp⟩
theorem E5 {q : List Sn} {i : Nat} {c : Int} (h1 : 1 ≤ q.length) (h2 : q.length ≤ 40) (hi : i < q.length) (h : ∀ j, j < i → Cg q j = 0) (hc : Cg q i = c) (h0 : c ≠ 0) : Lc q = (c, (i : Int)) := by
  have hf := CS (f := Cg q) (g := iI) (i := i) (by rw [hc]; exact h0) h hi
  unfold Lc
  rw [if_neg (by rw [Bool.and_eq_false_iff, decide_eq_false_iff_not, decide_eq_false_iff_not]; omega), hf, hc, if_pos h0]; rfl
theorem VI {q : List Sn} (h1 : 1 ≤ q.length) (h2 : q.length ≤ 40) (h : ∀ j, j < q.length → Cg q j = 0) : Lc q = if (Dl q q.length).getD (q.length - 1) 0 ≠ q.length then (5, -1) else (0, 0) := by
  unfold Lc
  rw [if_neg (by rw [Bool.and_eq_false_iff, decide_eq_false_iff_not, decide_eq_false_iff_not]; omega), Cv h, if_neg (by simp)]
theorem MU {q : List Sn} {i : Nat} (hi : i < q.length) (h : Cg q i = 0) : He (Ef q) i = 0 := by
  rw [OK hi] at h; exact (RC h).1
def OM : List AV → Option (Prop × AV)
  | [.agg [.d (.sl xs)]] => some (xs = rows Ec (C8 xs) ∧ (C8 xs).length ≤ 9223372036854775807 ∧ KR (C8 xs), .agg [.d (.int .i64 (Lc (C8 xs)).1), .d (.int .i64 (Lc (C8 xs)).2)])
  | _ => none
