/- Walks, printed by wip/gen/walk.py. -/
import Derived.Test.YtmbjnkgpcbpclaaGreatT112
import Derived.Test.YtmbjnkgpcbpclaaGreatV5
set_option linter.all false
set_option maxRecDepth 100000
set_option maxHeartbeats 4000000
namespace Go.Proofs.YtmbjnkgpcbpclaaGreat
open Go Go.Vc Go.RowKit
theorem S6 {l : List Int} {P : List AM} {q : List Sn} (h : 1 ≤ q.length) : (Ib l P q).length ≤ l.length := by
  unfold Ib
  obtain ⟨s, hs⟩ := Cb (l := Dg l P q q.length) (i := q.length - 1) (by rw [Ez]; omega)
  rw [List.getD_eq_getElem?_getD, hs]
  exact GZ s (AF hs)
theorem QK {l : List Int} {P : List AM} (h : LC l P) : Fo P := fun p hp => ⟨by rw [h.g3 p hp]; decide, by have := h.pmax p hp; omega⟩
theorem K2 (ts : List Bs) : (BV ts).1 ≠ 0 ∧ KX ts = [] ∧ KW ts = [] ∨ BV ts = (0, 0) ∧ KX ts = Ek ts.length ∧ KW ts = D6 ts ts.length ∧ ts.length ≤ 20 ∧ ∀ s ∈ ts, s.length ≤ 400 := by
  by_cases h : (BV ts).1 = 0
  · right
    unfold KX KW
    rw [if_pos h, if_pos h]
    unfold BV at h ⊢
    split at h
    · cases h
    · rename_i h1
      rw [if_neg h1]
      split at h
      · cases h
      · rename_i h2
        rw [if_neg h2]
        refine ⟨rfl, rfl, rfl, by omega, fun s hs => ?_⟩
        cases hb : KK s with
        | true => exact absurd (List.any_eq_true.2 ⟨s, hs, hb⟩) h2
        | false => have := of_decide_eq_false hb; omega
  · left; unfold KX KW; rw [if_neg h, if_neg h]; exact ⟨h, rfl, rfl⟩
theorem SL {ts : List Bs} {p s : Bs} {i : Nat} (h : ts[i]? = some s) (hs : ED s p = true) : (i : Int) ∈ Dl (Ek ts.length) (D6 ts ts.length) p (p.length - 2) := by
  have hi := (List.getElem?_eq_some_iff.1 h).1
  unfold Dl
  rw [List.mem_filter, List.all_eq_true]
  refine ⟨E0.2 (by omega), fun j hj => ?_⟩
  have hj := List.mem_range.1 hj
  rw [RW (ER ts ts.length).sort, Jc]
  obtain ⟨a, ha, he⟩ := List.any_eq_true.1 hs
  have ha := List.mem_range.1 ha
  have he := of_decide_eq_true he
  refine ⟨i, hi, rfl, a + j, ?_, ?_⟩
  · rw [BG h]
    have : p.length = min p.length (s.length - a) := by
      have := congrArg List.length he
      simp only [List.length_take, List.length_drop] at this
      omega
    omega
  · rw [BG h]
    unfold gr
    conv => rhs; rw [← he]
    rw [List.drop_take, List.take_take, List.drop_drop, Nat.min_eq_left (by omega)]
def H8 (q : List Sn) : List Sn := q ++ [⟨4, [], (q.length : Int) - 1, 0⟩]
theorem FL (q : List Sn) : (H8 q).length = q.length + 1 := by unfold H8; simp
theorem SK {q : List Sn} {i : Nat} (h : i < q.length) : (H8 q).getD i default = q.getD i default := by
  unfold H8; rw [List.getD_eq_getElem?_getD, List.getD_eq_getElem?_getD, List.getElem?_append_left h]
theorem Lj (q : List Sn) : (H8 q).getD q.length default = ⟨4, [], (q.length : Int) - 1, 0⟩ := by
  unfold H8; rw [List.getD_eq_getElem?_getD, List.getElem?_append_right (Nat.le_refl _), Nat.sub_self]; rfl
theorem Lk {q : List Sn} : ∀ {i : Nat}, i ≤ q.length → Dz (H8 q) i = Dz q i
  | 0, _ => rfl
  | i + 1, h => by
    rw [Ep (by rw [FL]; omega) rfl, Ep (by omega) rfl, SK (by omega), Lk (i := i) (by omega)]
theorem Wp {q : List Sn} (h : BR q = (0, 0)) (h40 : q.length < 40) : BR (H8 q) = (0, 0) := by
  obtain ⟨_, h1, _, h0⟩ := EI h
  have hend := Jz h1 (by omega) h0
  rw [h] at hend
  have hr1 : (Dz q q.length).length = 1 := by
    by_cases hr : (Dz q q.length).length = 1
    · exact hr
    · rw [if_pos hr] at hend; cases hend
  obtain ⟨n, hn⟩ : ∃ n, q.length = n + 1 := ⟨q.length - 1, by omega⟩
  have hst := Ep (q := q) (i := n) (by omega) rfl
  rw [← hn] at hst
  have hrs : Dz q q.length = [((n : Nat) : Int)] := by
    rw [hst] at hr1 ⊢
    have h2 : ((Dz q n).take ((Dz q n).length - Dh (q.getD n default).kd)).length = 0 := by
      rw [List.length_append, List.length_singleton] at hr1; omega
    rw [List.length_eq_zero_iff.1 h2]; rfl
  have hz : ∀ j, j < (H8 q).length → MB (H8 q) j = 0 := by
    intro j hj
    rw [FL] at hj
    by_cases hjl : j < q.length
    · unfold MB
      rw [SK hjl, Lk (by omega)]
      exact h0 j hjl
    · obtain rfl : j = q.length := by omega
      unfold MB
      rw [Lj, Lk (Nat.le_refl _), hrs]
      have e : (q.length : Int) - 1 = ((n : Nat) : Int) := by omega
      rw [e]
      unfold Hi MY
      dsimp only
      rw [if_neg (by omega), if_neg (by rintro ⟨h, _⟩; omega), if_neg (by rintro ⟨_, h⟩; exact h rfl)]
      have hs4 : Dh 4 = 1 := rfl
      rw [hs4, if_neg (by simp), if_pos]
      exact ⟨rfl, rfl⟩
  rw [Jz (by rw [FL]; omega) (by rw [FL]; omega) hz, if_neg]
  rw [FL, Ep (by rw [FL]; omega) (Lj q), Lk (Nat.le_refl _), hrs]
  have hs4 : Dh 4 = 1 := rfl
  rw [hs4]; simp
theorem V6 {u : Bs} {q : List Sn} : ∀ {i : Nat}, i ≤ q.length → Ko u (H8 q) i = Ko u q i
  | 0, _ => rfl
  | i + 1, h => by
    rw [FJ rfl, FJ rfl, SK (by omega), V6 (i := i) (by omega)]
theorem Xp {u : Bs} {q : List Sn} (h1 : 1 ≤ q.length) : Qq u (H8 q) = !Qq u q := by
  unfold Qq
  rw [FL, FJ (Lj q), V6 (Nat.le_refl _), Nat.add_sub_cancel]
  have hl := Dv u q q.length
  rw [List.getD_eq_getElem?_getD, List.getElem?_append_right (by omega), hl, Nat.sub_self]
  obtain ⟨y, hy⟩ := Cb (l := Ko u q q.length) (i := q.length - 1) (by omega)
  have e : ((q.length : Int) - 1).toNat = q.length - 1 := by omega
  rw [List.getD_eq_getElem?_getD, hy]
  show Ql u ⟨4, [], (q.length : Int) - 1, 0⟩ _ = _
  rw [V4 (by omega) (by omega) (by omega) (by rw [e]; exact hy)]; rfl
theorem RN {ts : List Bs} {q : List Sn} {k : Int} : ∀ {n : Nat}, k ∈ J9 ts q n ↔ ∃ i : Nat, k = (i : Int) ∧ i < n ∧ Qq (ts.getD i []) q = true
  | 0 => ⟨fun h => (by cases h), fun ⟨i, _, h, _⟩ => (by omega)⟩
  | n + 1 => by
    have ih := RN (ts := ts) (q := q) (k := k) (n := n)
    unfold J9
    split
    · rename_i hm
      rw [List.mem_append, ih, List.mem_singleton]
      constructor
      · rintro (⟨i, h1, h2, h3⟩ | h)
        · exact ⟨i, h1, by omega, h3⟩
        · exact ⟨n, h, by omega, hm⟩
      · rintro ⟨i, h1, h2, h3⟩
        by_cases hi : i = n
        · subst hi; exact .inr h1
        · exact .inl ⟨i, h1, by omega, h3⟩
    · rename_i hm
      rw [ih]
      constructor
      · rintro ⟨i, h1, h2, h3⟩; exact ⟨i, h1, by omega, h3⟩
      · rintro ⟨i, h1, h2, h3⟩
        by_cases hi : i = n
        · subst hi; exact absurd h3 hm
        · exact ⟨i, h1, by omega, h3⟩
theorem RM {ts : List Bs} {q : List Sn} {i : Nat} (hi : i < ts.length) : decide ((i : Int) ∈ J9 ts q ts.length) = Qq (ts.getD i []) q := by
  rw [Bool.eq_iff_iff, decide_eq_true_eq, RN]
  constructor
  · rintro ⟨j, h1, _, h3⟩
    have : i = j := by omega
    subst this; exact h3
  · intro h; exact ⟨i, rfl, hi, h⟩
theorem S7 {ts : List Bs} {q : List Sn} (hv : BR q = (0, 0)) {i : Nat} {s : Bs} (h : ts[i]? = some s) : ∀ (n : Nat), n ≤ q.length → ∀ k, k < n → (Ko s q n).getD k false = true → (i : Int) ∈ (Dg (Ek ts.length) (D6 ts ts.length) q n).getD k []
  | 0, _, k, hk, _ => by omega
  | n + 1, hn, k, hk, hm => by
    have ih := S7 hv h n (by omega)
    have hi := (List.getElem?_eq_some_iff.1 h).1
    obtain ⟨x, hxe⟩ := Cb (l := q) (i := n) (by omega)
    have hxd : q.getD n default = x := by rw [List.getD_eq_getElem?_getD, hxe]; rfl
    rw [FJ hxd] at hm
    rw [Kl hxd]
    by_cases hkn : k < n
    · rw [List.getD_eq_getElem?_getD, List.getElem?_append_left (by rw [Ez]; exact hkn), ← List.getD_eq_getElem?_getD]
      rw [List.getD_eq_getElem?_getD, List.getElem?_append_left (by rw [Dv]; exact hkn), ← List.getD_eq_getElem?_getD] at hm
      exact ih k hkn hm
    · obtain rfl : k = n := by omega
      rw [List.getD_eq_getElem?_getD, List.getElem?_append_right (by rw [Ez]; exact Nat.le_refl _), Ez, Nat.sub_self]
      rw [List.getD_eq_getElem?_getD, List.getElem?_append_right (by rw [Dv]; exact Nat.le_refl _), Dv, Nat.sub_self] at hm
      have hm : Ql s x (Ko s q k) = true := hm
      show (i : Int) ∈ Ja _ _ x _
      have hio : (i : Int) ∈ Ek ts.length := E0.2 (by omega)
      obtain ⟨⟨k1, k4⟩, _⟩ := EU hv (i := k) (by omega) hxd
      have hat := Oa hv (i := k) (by omega) hxd
      obtain ⟨a, b, c, e⟩ := x
      dsimp only at k1 k4 hat
      unfold Ql at hm
      unfold Ja
      dsimp only at hm ⊢
      split at hm
      · rename_i h1
        rw [if_pos h1]
        exact SL h hm
      · rename_i h1
        rw [if_neg h1]
        obtain ⟨c0, ci, e0, ei⟩ := hat h1
        split
        · exact hio
        · rename_i h4
          rw [List.mem_filter]
          refine ⟨hio, ?_⟩
          unfold Lg
          split at hm
          · rename_i h2
            rw [if_pos h2]
            rw [Bool.and_eq_true] at hm ⊢
            exact ⟨decide_eq_true (ih _ (by omega) hm.1), decide_eq_true (ih _ (by omega) hm.2)⟩
          · rename_i h2
            rw [if_neg h2]
            rw [if_pos (by omega)] at hm
            rw [Bool.or_eq_true] at hm ⊢
            exact hm.imp (fun h => decide_eq_true (ih _ (by omega) h)) (fun h => decide_eq_true (ih _ (by omega) h))
theorem U9 {ts : List Bs} {q : List Sn} (hv : BR q = (0, 0)) {i : Nat} {s : Bs} (h : ts[i]? = some s) (hm : Qq s q = true) : (i : Int) ∈ Ib (Ek ts.length) (D6 ts ts.length) q := by
  obtain ⟨_, h1, _, _⟩ := EI hv
  exact S7 hv h q.length (Nat.le_refl _) (q.length - 1) (by omega) hm
end Go.Proofs.YtmbjnkgpcbpclaaGreat
