/- Walks, printed by wip/gen/walk.py. -/
import Derived.Test.YtmbjnkgpcbpclaaGreatT54
import Derived.Test.YtmbjnkgpcbpclaaGreatV5
set_option linter.all false
set_option maxRecDepth 100000
set_option maxHeartbeats 4000000
namespace Go.Proofs.YtmbjnkgpcbpclaaGreat
open Go Go.Vc Go.RowKit
def arQ (q : List Nd) (i : Nat) : List Nat := (q.take i).map fun n => ar n.kd
theorem arQ_len {q : List Nd} {i : Nat} (h : i ≤ q.length) : (arQ q i).length = i := by unfold arQ; rw [List.length_map, List.length_take]; omega
theorem arQ_snoc {q : List Nd} {i : Nat} {x : Nd} (h : q[i]? = some x) : arQ q (i + 1) = arQ q i ++ [ar x.kd] := by unfold arQ; rw [List.take_add_one, h]; simp
theorem arQ_two {q : List Nd} {i : Nat} : ∀ a ∈ arQ q i, a ≤ 2 := by
  intro a ha
  obtain ⟨n, _, rfl⟩ := List.mem_map.1 ha
  rcases ar_or n.kd with ⟨_, h⟩ | ⟨_, _, h⟩ | ⟨_, h⟩ <;> omega
theorem arQ_at {q : List Nd} {i j : Nat} (hi : i ≤ q.length) (h : j < i) : (arQ q i).getD j 0 = ar (q.getD j default).kd := by
  obtain ⟨x, hx⟩ : ∃ x, q[j]? = some x := ⟨_, List.getElem?_eq_getElem (by omega)⟩
  unfold arQ
  rw [List.getD_eq_getElem?_getD, List.getD_eq_getElem?_getD, List.getElem?_map, List.getElem?_take, if_pos h, hx]; rfl
theorem szA_q {q : List Nd} {i : Nat} (hi : i ≤ q.length) : ∀ {j : Nat}, j ≤ i → szA (arQ q i) j = szl q j
  | 0, _ => rfl
  | j + 1, h => by
    show szA (arQ q i) j ++ [szN (szA (arQ q i) j) ((arQ q i).getD j 0)] = szl q j ++ [szN (szl q j) (ar (q.getD j default).kd)]
    rw [szA_q hi (by omega), arQ_at hi (by omega)]
theorem ref_sz {q : List Nd} {i : Nat} (h : refC q i = 0) : szB (szl q i) (ar (q.getD i default).kd) = false := by
  unfold refC at h
  split at h
  · cases h
  · split at h
    · cases h
    · split at h
      · cases h
      · rename_i h3; simpa using h3
theorem ok_q {q : List Nd} {i m : Nat} (hm : m ≤ i) (hi : i ≤ q.length) (h : ∀ j, j < m → refC q j = 0) : okA (arQ q i) m := by
  intro j hj
  rw [szA_q hi (by omega), arQ_at hi (by omega)]
  exact ref_sz (h j hj)
theorem bad_q {q : List Nd} {i : Nat} (hi : i + 1 ≤ q.length) : badA (arQ q (i + 1)) = szB (szl q i) (ar (q.getD i default).kd) := by
  have hl := arQ_len hi
  unfold badA
  rw [hl, Nat.add_sub_cancel, szA_q hi (by omega), arQ_at hi (by omega)]
  have : decide (arQ q (i + 1) ≠ []) = true := decide_eq_true (fun h => by rw [h] at hl; cases hl)
  rw [this, Bool.true_and]
theorem szl_le {q : List Nd} {i : Nat} (hi : i ≤ q.length) (h : ∀ j, j < i → refC q j = 0) : ∀ p, p < i → (szl q i).getD p 0 ≤ p + 1 := by
  intro p hp
  have := szA_le (az := arQ q i) arQ_two (ok_q (Nat.le_refl _) hi h) p hp
  rwa [szA_q hi (Nat.le_refl _)] at this
theorem szl_get {q : List Nd} {i p : Nat} (h : p < i) : (szl q (i + 1)).getD p 0 = (szl q i).getD p 0 := by
  show (szl q i ++ [_]).getD p 0 = (szl q i).getD p 0
  simp only [List.getD_eq_getElem?_getD]
  rw [List.getElem?_append_left (by rw [szl_len]; exact h)]
theorem refQ_end {q : List Nd} (h1 : 1 ≤ q.length) (h2 : q.length ≤ 40) (h : ∀ j, j < q.length → refC q j = 0) : refQ q = if (szl q q.length).getD (q.length - 1) 0 ≠ q.length then (5, -1) else (0, 0) := by
  unfold refQ
  rw [if_neg (by rw [Bool.and_eq_false_iff, decide_eq_false_iff_not, decide_eq_false_iff_not]; omega), firstF_none h, if_neg (by simp)]

theorem sz_ok {q : List Nd} {i : Nat} (hi : i ≤ q.length) (hb : badA (arQ q i) = false) : szX (arQ q i) = -1 ∧ szO (arQ q i) = szl q i := by
  refine ⟨by unfold szX; rw [if_neg (by rw [hb]; simp)], ?_⟩
  unfold szO
  rw [if_neg (by rw [hb]; simp), arQ_len hi, szA_q hi (Nat.le_refl _)]
theorem sz_bad {q : List Nd} {i : Nat} (hi : i + 1 ≤ q.length) (hb : badA (arQ q (i + 1)) = true) : szX (arQ q (i + 1)) = (i : Int) := by
  unfold szX
  rw [if_pos hb, arQ_len hi]; omega
theorem bad_all {q : List Nd} (h1 : 1 ≤ q.length) (h : ∀ j, j < q.length → refC q j = 0) : badA (arQ q q.length) = false := by
  obtain ⟨n, hn⟩ : ∃ n, q.length = n + 1 := ⟨q.length - 1, by omega⟩
  rw [hn, bad_q (by omega)]
  exact ref_sz (h n (by omega))
theorem op_is {q : List Nd} {i a : Nat} (h40 : q.length ≤ 40) (hi : i + 1 ≤ q.length) (h : ∀ j, j < i → refC q j = 0) (ha : a ≤ 2) (hb : szB (szl q i) a = false) :
    (((a : Nat) : Int) = 2 → 1 ≤ (i : Int) ∧ (szl q (i + 1)).getD (((i : Nat) : Int).toNat - 1) 0 ≤ 1000) ∧
    (if ((a : Nat) : Int) = 1 then (i : Int) - 1 else if ((a : Nat) : Int) = 2 then (i : Int) - 1 - ((szl q (i + 1)).getD (((i : Nat) : Int).toNat - 1) 0 : Nat) else 0) = opL (szl q i) a ∧
    (if ((a : Nat) : Int) = 2 then (i : Int) - 1 else 0) = opR (szl q i) a := by
  have hl := szl_len q i
  have hg := szB_get hb
  rw [hl] at hg
  have hit : ((i : Nat) : Int).toNat - 1 = i - 1 := by omega
  rw [hit]
  unfold opL opR
  rw [hl]
  match a, ha with
  | 0, _ => exact ⟨fun h => by omega, by simp, by simp⟩
  | 1, _ => exact ⟨fun h => by omega, by simp, by simp⟩
  | 2, _ =>
    have h1 := hg.1 (by omega)
    have hle := szl_le (q := q) (i := i) (by omega) h (i - 1) (by omega)
    rw [szl_get (by omega)]
    exact ⟨fun _ => ⟨by omega, by omega⟩, by simp, by simp⟩

theorem refS_at {q : List Sn} {i : Nat} {c : Int} (h1 : 1 ≤ q.length) (h2 : q.length ≤ 40) (hi : i < q.length) (h : ∀ j, j < i → refCs q j = 0) (hc : refCs q i = c) (h0 : c ≠ 0) : refS q = (c, (i : Int)) := by
  have hf := firstF_at (f := refCs q) (g := iI) (i := i) (by rw [hc]; exact h0) h hi
  unfold refS
  rw [if_neg (by rw [Bool.and_eq_false_iff, decide_eq_false_iff_not, decide_eq_false_iff_not]; omega), hf, hc, if_pos h0]; rfl
theorem refS_end {q : List Sn} (h1 : 1 ≤ q.length) (h2 : q.length ≤ 40) (h : ∀ j, j < q.length → refCs q j = 0) : refS q = if (szlS q q.length).getD (q.length - 1) 0 ≠ q.length then (5, -1) else (0, 0) := by
  unfold refS
  rw [if_neg (by rw [Bool.and_eq_false_iff, decide_eq_false_iff_not, decide_eq_false_iff_not]; omega), firstF_none h, if_neg (by simp)]
theorem refC_of {q : List Sn} {i : Nat} (hi : i < q.length) (h : refCs q i = 0) : refC (mpQ q) i = 0 := by
  rw [refCs_mp hi] at h; exact (snF_c h).1
def refSG : List AV → Option (Prop × AV)
  | [.agg [.d (.sl xs)]] => some (xs = rows eSn (dSn xs) ∧ (dSn xs).length ≤ 9223372036854775807 ∧ bigS (dSn xs), .agg [.d (.int .i64 (refS (dSn xs)).1), .d (.int .i64 (refS (dSn xs)).2)])
  | _ => none
end Go.Proofs.YtmbjnkgpcbpclaaGreat
