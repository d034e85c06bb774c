/- Walks, printed by wip/gen/walk.py. -/
import Derived.Test.YtmbjnkgpcbpclaaGreatT55
import Derived.Test.YtmbjnkgpcbpclaaGreatV5
set_option linter.all false
set_option maxRecDepth 100000
set_option maxHeartbeats 4000000
namespace Go.Proofs.YtmbjnkgpcbpclaaGreat
open Go Go.Vc Go.RowKit
def Gy (q : List Nd) (i : Nat) : Nat := MP (Gh q i) (ar (q.getD i default).kd)
theorem Ly {q : List Nd} : ∀ {n i : Nat}, i < n → (Gh q n).getD i 0 = Gy q i
  | n + 1, i, h => by
    by_cases hi : i < n
    · rw [Va hi]; exact Ly hi
    · obtain rfl : i = n := by omega
      show (Gh q i ++ [_]).getD i 0 = _
      rw [List.getD_eq_getElem?_getD, List.getElem?_append_right (by rw [Fq]; exact Nat.le_refl _), Fq, Nat.sub_self]; rfl
def Yb (q : List Nd) : Prop := 1 ≤ q.length ∧ q.length ≤ 40 ∧ ∀ j, j < q.length → MF q j = 0
theorem Ku {q : List Nd} (h : Vg q = (0, 0)) : Yb q ∧ (rts q q.length).length = 1 := by
  unfold Vg at h
  split at h
  · cases h
  · rename_i h1
    split at h
    · rename_i h2; rw [h] at h2; exact absurd rfl h2
    · rename_i h2
      have h0 := fun j hj => DT (f := qC q) (g := iI) (n := q.length) (by omega) j hj
      refine ⟨⟨by omega, by omega, fun j hj => ?_⟩, ?_⟩
      · rw [US (by omega) fun k hk => h0 k (by omega)]; exact h0 j hj
      · split at h
        · cases h
        · rename_i h3; omega
theorem Wz {q : List Nd} (h : Yb q) {i : Nat} (hi : i < q.length) : 1 ≤ Gy q i ∧ Gy q i ≤ i + 1 := by
  refine ⟨?_, ?_⟩
  · unfold Gy
    rw [T4 _ (by rcases JT (q.getD i default).kd with ⟨_, h⟩ | ⟨_, _, h⟩ | ⟨_, h⟩ <;> omega)]
    exact NW _ _
  · have := W2 (q := q) (i := i + 1) (by omega) (fun j hj => h.2.2 j (by omega)) i (by omega)
    rwa [Ly (by omega)] at this

theorem UH {q : List Nd} (h : Yb q) {i : Nat} (hi : i < q.length) {x : Nd} (hx : q.getD i default = x) : 1 ≤ x.kd ∧ x.kd ≤ 16 ∧ 0 ≤ x.nm ∧ x.nm ≤ Kn x.kd ∧
    (ar x.kd = 0 → x.lf = 0 ∧ x.rt = 0 ∧ Gy q i = 1) ∧ (ar x.kd = 1 → 1 ≤ i ∧ x.lf = ((i - 1 : Nat) : Int) ∧ x.rt = 0 ∧ Gy q i = 1 + Gy q (i - 1)) ∧
    (ar x.kd = 2 → Gy q (i - 1) + 1 ≤ i ∧ x.lf = ((i - 1 - Gy q (i - 1) : Nat) : Int) ∧ x.rt = ((i - 1 : Nat) : Int) ∧ Gy q i = 1 + Gy q (i - 1) + Gy q (i - 1 - Gy q (i - 1))) := by
  have hr := h.2.2 i hi
  have hl := Fq q i
  have hb := Tj hr
  rw [hx] at hb
  have hg := Pp hb
  rw [hl] at hg
  unfold MF at hr
  rw [hx] at hr
  split at hr
  · cases hr
  rename_i c1
  split at hr
  · cases hr
  rename_i c2
  split at hr
  · cases hr
  split at hr
  · rename_i c3 c4
    simp only [Bool.and_eq_false_iff, decide_eq_false_iff_not, not_or, Decidable.not_not] at c1 c2
    have e1 : 1 ≤ i → (Gh q i).getD (i - 1) 0 = Gy q (i - 1) := fun h => Ly (by omega)
    obtain ⟨c4, c5⟩ := c4
    unfold XA at c4
    unfold XB at c5
    rw [hl] at c4 c5
    have eI : Gy q i = MP (Gh q i) (ar x.kd) := by unfold Gy; rw [hx]
    refine ⟨c1.1, c1.2, c2.1, c2.2, fun ha => ?_, fun ha => ?_, fun ha => ?_⟩
    · rw [ha] at c4 c5 eI
      exact ⟨by simpa using c4, by simpa using c5, eI⟩
    · rw [ha] at c4 c5 eI hg
      have h1 := hg.1 (by omega)
      have e2 := e1 h1
      refine ⟨h1, ?_, by simpa using c5, ?_⟩
      · rw [c4, if_pos rfl]; omega
      · rw [eI]; show 1 + (Gh q i).getD ((Gh q i).length - 1) 0 = _; rw [hl, e2]
    · rw [ha] at c4 c5 eI hg
      have h1 := hg.1 (by omega)
      have h2 := hg.2 (by omega)
      have e2 := e1 h1
      rw [e2] at h2 c4
      refine ⟨by omega, ?_, ?_, ?_⟩
      · rw [c4, if_neg (by omega), if_pos rfl]; omega
      · rw [c5, if_pos rfl]; omega
      · rw [eI]
        show 1 + (Gh q i).getD ((Gh q i).length - 1) 0 + (Gh q i).getD ((Gh q i).length - (1 + (Gh q i).getD ((Gh q i).length - 1) 0)) 0 = _
        rw [hl, e2, Ly (q := q) (n := i) (i := i - (1 + Gy q (i - 1))) (by omega)]
        congr 2; omega
  · cases hr

theorem EI {q : List Sn} (h : BR q = (0, 0)) : Vg (Ic q) = (0, 0) ∧ 1 ≤ q.length ∧ q.length ≤ 40 ∧ ∀ j, j < q.length → MB q j = 0 := by
  unfold BR at h
  split at h
  · cases h
  · rename_i h1
    split at h
    · rename_i h2; rw [h] at h2; exact absurd rfl h2
    · rename_i h2
      have h0 := fun j hj => DT (f := MB q) (g := iI) (n := q.length) (by omega) j hj
      split at h
      · cases h
      · rename_i h3
        refine ⟨?_, by omega, by omega, h0⟩
        unfold Vg
        rw [NS, if_neg h1, C8 fun j hj => Xs hj (h0 j hj), if_neg (by simp)]
        exact if_neg h3
theorem HI {q : List Sn} (h : BR q ≠ (0, 0)) : (BR q).1 ≠ 0 := by
  intro h0
  unfold BR at h h0
  split at h
  · rename_i h1; rw [if_pos h1] at h0; exact absurd h0 (by decide)
  · rename_i h1
    rw [if_neg h1] at h0
    split at h
    · rename_i h2; rw [if_pos h2] at h0; exact h2 h0
    · rename_i h2
      rw [if_neg h2] at h0
      split at h
      · rename_i h3; rw [if_pos h3] at h0; exact absurd h0 (by decide)
      · exact h rfl
theorem EU {q : List Sn} (h : BR q = (0, 0)) {i : Nat} (hi : i < q.length) {x : Sn} (hx : q.getD i default = x) : (1 ≤ x.kd ∧ x.kd ≤ 4) ∧ (x.kd = 1 → Gu x.tx = true) ∧ (x.kd ≠ 1 → x.tx = []) ∧ (x.kd = 1 → x.lf = 0 ∧ x.rt = 0 ∧ Gy (Ic q) i = 1) ∧
    (x.kd = 4 → 1 ≤ i ∧ x.lf = ((i - 1 : Nat) : Int) ∧ x.rt = 0 ∧ Gy (Ic q) i = 1 + Gy (Ic q) (i - 1)) ∧
    (x.kd = 2 ∨ x.kd = 3 → Gy (Ic q) (i - 1) + 1 ≤ i ∧ x.lf = ((i - 1 - Gy (Ic q) (i - 1) : Nat) : Int) ∧ x.rt = ((i - 1 : Nat) : Int) ∧ Gy (Ic q) i = 1 + Gy (Ic q) (i - 1) + Gy (Ic q) (i - 1 - Gy (Ic q) (i - 1))) := by
  obtain ⟨h1, _, _, h4⟩ := EI h
  have hq := (Ku h1).1
  have hm : (Ic q).getD i default = nM x := by rw [SB hi, hx]
  obtain ⟨_, _, _, _, o5, o6, o7⟩ := UH hq (by rw [NS]; exact hi) hm
  have hs := h4 i hi
  rw [Tb hi, hx] at hs
  obtain ⟨_, s2, s3, s4⟩ := Tu hs
  have ha : ar (nM x).kd = Dh x.kd := Ru _
  rw [ha] at o5 o6 o7
  refine ⟨s2, s3, s4, fun hk => o5 (by rw [hk]; rfl), fun hk => o6 (by rw [hk]; rfl), fun hk => o7 (by rcases hk with hk | hk <;> rw [hk] <;> rfl)⟩
def Ql (u : Bs) (n : Sn) (l : List Bool) : Bool :=
  if n.kd = 1 then ED u n.tx else if n.kd = 2 then l.getD n.lf.toNat false && l.getD n.rt.toNat false
  else if n.kd = 3 then l.getD n.lf.toNat false || l.getD n.rt.toNat false else !(l.getD n.lf.toNat false)
def Ko (u : Bs) (q : List Sn) : Nat → List Bool
  | 0 => []
  | i + 1 => Ko u q i ++ [Ql u (q.getD i default) (Ko u q i)]
theorem Dv (u : Bs) (q : List Sn) : ∀ i, (Ko u q i).length = i
  | 0 => rfl
  | i + 1 => by simp [Ko, Dv u q i]
def Qq (u : Bs) (q : List Sn) : Bool := (Ko u q q.length).getD (q.length - 1) false
def Xk : List AV → Option (Prop × AV)
  | [.d (.str u), .agg [.d (.sl xs)]] => some (xs = rows DL (C3 xs) ∧ BR (C3 xs) = (0, 0) ∧ u.length ≤ 1000000000, .d (.bool (Qq u (C3 xs))))
  | _ => none
theorem Iw {b : Bs} (h : Gu b = true) : 1 ≤ b.length ∧ b.length ≤ 80 := by
  unfold Gu at h
  simp only [Bool.and_eq_true, decide_eq_true_eq] at h
  exact h.1
theorem Oa {q : List Sn} (h : BR q = (0, 0)) {i : Nat} (hi : i < q.length) {x : Sn} (hx : q.getD i default = x) (hk : x.kd ≠ 1) : 0 ≤ x.lf ∧ x.lf < i ∧ 0 ≤ x.rt ∧ x.rt < i := by
  obtain ⟨h1, _, _, _, h5, h6⟩ := EU h hi hx
  by_cases h4 : x.kd = 4
  · obtain ⟨a, b, c, _⟩ := h5 h4; omega
  · obtain ⟨a, b, c, _⟩ := h6 (by omega); omega

theorem Xj {u : Bs} {a c e : Int} {b : Bs} {l : List Bool} (h : a = 1) : Ql u ⟨a, b, c, e⟩ l = ED u b := if_pos h
theorem Mj {l : List Bool} {j : Int} {v : Bool} (h : l[j.toNat]? = some v) : l.getD j.toNat false = v := by rw [List.getD_eq_getElem?_getD, h]; rfl
theorem V2 {u : Bs} {a c e : Int} {b : Bs} {l : List Bool} {v w : Bool} (h : a = 2) (h1 : l[c.toNat]? = some v) (h2 : l[e.toNat]? = some w) : Ql u ⟨a, b, c, e⟩ l = (v && w) := by
  unfold Ql; dsimp only; rw [if_neg (by omega), if_pos h, Mj h1, Mj h2]
theorem V3 {u : Bs} {a c e : Int} {b : Bs} {l : List Bool} {v w : Bool} (h : a = 3) (h1 : l[c.toNat]? = some v) (h2 : l[e.toNat]? = some w) : Ql u ⟨a, b, c, e⟩ l = (v || w) := by
  unfold Ql; dsimp only; rw [if_neg (by omega), if_neg (by omega), if_pos h, Mj h1, Mj h2]
theorem V4 {u : Bs} {a c e : Int} {b : Bs} {l : List Bool} {v : Bool} (h1' : a ≠ 1) (h2' : a ≠ 2) (h3' : a ≠ 3) (h1 : l[c.toNat]? = some v) : Ql u ⟨a, b, c, e⟩ l = !v := by
  unfold Ql; dsimp only; rw [if_neg h1', if_neg h2', if_neg h3', Mj h1]
theorem FJ {u : Bs} {q : List Sn} {i : Nat} {x : Sn} (h : q.getD i default = x) : Ko u q (i + 1) = Ko u q i ++ [Ql u x (Ko u q i)] := by rw [← h]; rfl
end Go.Proofs.YtmbjnkgpcbpclaaGreat
