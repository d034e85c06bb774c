/- Walks, printed by wip/gen/walk.py. -/
import Derived.Test.YtmbjnkgpcbpclaaGreatT14
import Derived.Test.YtmbjnkgpcbpclaaGreatV5
set_option linter.all false
set_option maxRecDepth 100000
set_option maxHeartbeats 4000000
namespace Go.Proofs.YtmbjnkgpcbpclaaGreat
open Go Go.Vc Go.RowKit
def YJ (P : List AU) (g : Bs) (x : Int) : Prop := ∃ t, (g, t) ∈ P ∧ x ∈ t
def MO (P : List AU) (g : Bs) (x : Int) : Bool := Ds P g && decide (x ∈ (P.getD (C5 P g) ([], [])).2)
theorem Vw {P : List AU} (hs : CJ P) {g : Bs} {t u : List Int} (h1 : (g, t) ∈ P) (h2 : (g, u) ∈ P) : t = u := by
  induction P with
  | nil => cases h1
  | cons p P ih =>
    obtain ⟨a1, a2⟩ := List.pairwise_cons.1 hs
    rcases List.mem_cons.1 h1 with e1 | h1' <;> rcases List.mem_cons.1 h2 with e2 | h2'
    · rw [← e1] at e2; exact (Prod.mk.inj e2).2.symm
    · have := a1 _ h2'; rw [← e1] at this; exact absurd rfl (Od this)
    · have := a1 _ h1'; rw [← e2] at this; exact absurd rfl (Od this)
    · exact ih a2 h1' h2'
theorem SO {P : List AU} (hs : CJ P) (g : Bs) (x : Int) : MO P g x = true ↔ YJ P g x := by
  unfold MO YJ
  rw [Bool.and_eq_true, decide_eq_true_eq]
  constructor
  · rintro ⟨h, hx⟩
    obtain ⟨t, ht⟩ := Hn hs h
    rw [B5 ht] at hx
    exact ⟨t, AE ht, hx⟩
  · rintro ⟨t, h, hx⟩
    have hh : Ds P g = true := decide_eq_true (List.mem_map.2 ⟨_, h, rfl⟩)
    obtain ⟨u, hu⟩ := Hn hs hh
    rw [B5 hu]
    exact ⟨hh, by rw [Vw hs (AE hu) h]; exact hx⟩
def ZY (P : List AU) : Prop := ∀ p ∈ P, p.2 ≠ []
def YX (P : List AU) : Prop := ∀ p ∈ P, p.1.length = 3
structure Qn (ts : List Int) (P : List AU) : Prop where
  tlen : ts.length ≤ 20
  trng : ∀ x ∈ ts, 0 ≤ x ∧ x < 20
  tsort : ts.Pairwise (· < ·)
  good : IY P
  g3 : YX P
  ne : ZY P
  sub : ∀ p ∈ P, ∀ x ∈ p.2, x ∈ ts
theorem CK {f : Nat → Int} {g : Nat → Int} : ∀ {n}, (BW f g n).1 = 0 → ∀ j, j < n → f j = 0
  | 0, _, j, hj => by omega
  | n + 1, h, j, hj => by
    unfold BW at h
    split at h
    · rename_i h1; exact absurd h h1
    · rename_i h1
      split at h
      · rename_i h2; exact absurd h h2
      · rename_i h2
        by_cases e : j = n
        · subst e; simpa using h2
        · exact CK (n := n) (by simpa using h1) j (by omega)
theorem W2 {l : List Int} (h : ∀ j, j < l.length → 0 < j → l.getD (j - 1) 0 < l.getD j 0) : l.Pairwise (· < ·) := by
  induction l with
  | nil => simp
  | cons a l ih =>
    have ih := ih (fun j hj h0 => by
      have := h (j + 1) (by simp; omega) (by omega)
      obtain ⟨j, rfl⟩ : ∃ i, j = i + 1 := ⟨j - 1, by omega⟩
      simpa using this)
    refine List.pairwise_cons.2 ⟨fun b hb => ?_, ih⟩
    cases l with
    | nil => cases hb
    | cons c l =>
      have h1 := h 1 (by simp) (by omega)
      simp at h1
      rcases List.mem_cons.1 hb with rfl | hb
      · exact h1
      · have := (List.pairwise_cons.1 ih).1 b hb; omega
theorem Xp {l : List Int} (h : l.Pairwise (· < ·)) : ∀ j, j < l.length → 0 < j → l.getD (j - 1) 0 < l.getD j 0 := by
  intro j hj h0
  obtain ⟨x, hx⟩ := BG (l := l) (i := j) hj
  obtain ⟨y, hy⟩ := BG (l := l) (i := j - 1) (by omega)
  rw [B5 hx, B5 hy]
  obtain ⟨h1, rfl⟩ := List.getElem?_eq_some_iff.1 hx
  obtain ⟨h2, rfl⟩ := List.getElem?_eq_some_iff.1 hy
  exact List.pairwise_iff_getElem.1 h (j - 1) j h2 h1 (by omega)
theorem SX {l : List Int} : Dv l = true ↔ l.Pairwise (· < ·) := by
  constructor
  · intro h
    refine W2 fun j hj h0 => ?_
    unfold Dv at h
    have := List.all_eq_true.1 h j (List.mem_range.2 hj)
    simp only [Bool.or_eq_true, beq_iff_eq, decide_eq_true_eq] at this
    omega
  · intro h; exact Ho (Xp h)
theorem Uq : ∀ {P : List AU}, (∀ j, j < P.length → 0 < j → Dj (P.getD (j - 1) ([], [])).1 (P.getD j ([], [])).1 = true) → CJ P
  | [], _ => List.Pairwise.nil
  | a :: P, h => by
    have ih := Uq (P := P) (fun j hj h0 => by
      have := h (j + 1) (by simp; omega) (by omega)
      obtain ⟨j, rfl⟩ : ∃ i, j = i + 1 := ⟨j - 1, by omega⟩
      simpa using this)
    refine List.pairwise_cons.2 ⟨fun b hb => ?_, ih⟩
    cases P with
    | nil => cases hb
    | cons c P =>
      have h1 := h 1 (by simp) (by omega)
      simp at h1
      rcases List.mem_cons.1 hb with rfl | hb
      · exact h1
      · exact E4 h1 ((List.pairwise_cons.1 ih).1 b hb)
theorem JS {ts : List Int} {P : List AU} (h : (Br ts P).1 = 0) : Qn ts P := by
  unfold Br at h
  split at h
  · rename_i h1; exact absurd h h1
  · rename_i h1
    simp only [ne_eq, Decidable.not_not] at h1
    have hp := CK h
    unfold HA at h1
    split at h1
    · cases h1
    · rename_i hlen
      have ht := CK h1
      have hpf : ∀ j, j < P.length → (P.getD j ([], [])).1.length = 3 ∧ ¬((0 < j ∧ Dj (P.getD (j - 1) ([], [])).1 (P.getD j ([], [])).1 = false) ∨ (P.getD j ([], [])).2 = [] ∨ Dv (P.getD j ([], [])).2 = false) ∧ ¬ (P.getD j ([], [])).2.any (FF ts) = true := by
        intro j hj
        have := hp j hj
        unfold EO at this
        split at this
        · cases this
        · split at this
          · cases this
          · split at this
            · cases this
            · rename_i a b c; exact ⟨by simpa using a, b, c⟩
      have hel : ∀ p ∈ P, ∃ j, j < P.length ∧ P.getD j ([], []) = p := fun p hp => by
        obtain ⟨i, hi⟩ := List.getElem?_of_mem hp
        exact ⟨i, (List.getElem?_eq_some_iff.1 hi).1, B5 hi⟩
      refine ⟨by omega, fun x hx => ?_, W2 fun j hj h0 => ?_, ⟨Uq fun j hj h0 => ?_, fun p hp => ?_⟩, fun p hp => ?_, fun p hp => ?_, fun p hp x hx => ?_⟩
      · obtain ⟨i, hi⟩ := List.getElem?_of_mem hx
        have := ht i (List.getElem?_eq_some_iff.1 hi).1
        unfold tf at this
        rw [B5 hi] at this
        split at this
        · cases this
        · omega
      · have := ht j hj
        unfold tf at this
        split at this
        · cases this
        · split at this
          · cases this
          · omega
      · have := (hpf j hj).2.1
        cases hb : Dj (P.getD (j - 1) ([], [])).1 (P.getD j ([], [])).1 with
        | true => rfl
        | false => exact absurd (.inl ⟨h0, hb⟩) this
      · obtain ⟨j, hj, rfl⟩ := hel p hp
        have := (hpf j hj).2.1
        rw [← SX]
        cases hb : Dv (P.getD j ([], [])).2 with
        | true => rfl
        | false => exact absurd (.inr (.inr hb)) this
      · obtain ⟨j, hj, rfl⟩ := hel p hp; exact (hpf j hj).1
      · obtain ⟨j, hj, rfl⟩ := hel p hp; exact fun e => (hpf j hj).2.1 (.inr (.inl e))
      · obtain ⟨j, hj, rfl⟩ := hel p hp
        by_cases hm : x ∈ ts
        · exact hm
        · exact absurd (List.any_eq_true.2 ⟨x, hx, by simp [FF, hm]⟩) (hpf j hj).2.2
theorem YI : ∀ {l : List Nat} {a b : Nat}, l.Pairwise (· < ·) → (∀ x ∈ l, a ≤ x ∧ x < b) → l.length ≤ b - a
  | [], _, _, _, _ => Nat.zero_le _
  | x :: l, a, b, hs, hb => by
    obtain ⟨h1, h2⟩ := List.pairwise_cons.1 hs
    have := YI (l := l) (a := x + 1) (b := b) h2 (fun y hy => ⟨h1 y hy, (hb y (by simp [hy])).2⟩)
    have := hb x (by simp)
    simp only [List.length_cons]; omega
def SM : Bs → Nat
  | [a, b, c] => a.toNat * 65536 + b.toNat * 256 + c.toNat
  | _ => 0
theorem Vp {a b : Bs} (ha : a.length = 3) (hb : b.length = 3) (h : Dj a b = true) : SM a < SM b := by
  match a, b, ha, hb with
  | [a1, a2, a3], [b1, b2, b3], _, _ =>
    simp only [Dj, Op.bytesLess, Bool.or_eq_true, Bool.and_eq_true, decide_eq_true_eq, beq_iff_eq, UInt8.lt_iff_toNat_lt] at h
    have := a2.toNat_lt; have := a3.toNat_lt; have := b2.toNat_lt; have := b3.toNat_lt
    simp only [SM]
    rcases h with h | ⟨rfl, h | ⟨rfl, h⟩⟩
    · omega
    · omega
    · simp at h; omega
theorem WW {P : List AU} (h : YX P) (hs : CJ P) : P.length ≤ 16777216 := by
  have h2 : (P.map fun p => SM p.1).Pairwise (· < ·) := by
    rw [List.pairwise_map]
    exact List.Pairwise.imp_of_mem (fun ha hb hab => Vp (h _ ha) (h _ hb) hab) hs
  have := YI (a := 0) (b := 16777216) h2 (fun x hx => by
    obtain ⟨p, hp, rfl⟩ := List.mem_map.1 hx
    have h3 := h p hp
    obtain ⟨g, t⟩ := p
    match g, h3 with
    | [a, b, c], _ => have := a.toNat_lt; have := b.toNat_lt; have := c.toNat_lt; simp only [SM]; omega)
  simpa using this
theorem Ur {l : List Int} (hs : l.Pairwise (· < ·)) (h : ∀ x ∈ l, 0 ≤ x ∧ x < 20) : l.length ≤ 20 := by
  have h2 : (l.map Int.toNat).Pairwise (· < ·) := by
    rw [List.pairwise_map]
    exact List.Pairwise.imp_of_mem (fun ha hb hab => by have := h _ ha; have := h _ hb; omega) hs
  have := YI (a := 0) (b := 20) h2 (fun x hx => by
    obtain ⟨y, hy, rfl⟩ := List.mem_map.1 hx
    have := h y hy; omega)
  simpa using this
theorem Qn.plen {ts : List Int} {P : List AU} (h : Qn ts P) : P.length ≤ 16777216 := WW h.g3 h.good.sort
theorem Qn.pmax {ts : List Int} {P : List AU} (h : Qn ts P) : ∀ p ∈ P, p.2.length ≤ 20 := fun p hp => Ur (h.good.rise p hp) (fun x hx => h.trng x (h.sub p hp x hx))
def CA (ts : List Int) (P : List AU) (s : Bs) (k : Nat) : List Int := ts.filter fun x => (List.range k).all fun j => MO P (gr s j) x
def D8 (ts : List Int) (P : List AU) (s : Bs) : Int × Int := if (Br ts P).1 ≠ 0 then Br ts P else if 400 < s.length then (10, -1) else (0, 0)
def Ef (ts : List Int) (P : List AU) (s : Bs) : List Int := if (D8 ts P s).1 ≠ 0 then [] else CA ts P s (s.length - 2)
theorem Oh (ts : List Int) (P : List AU) (s : Bs) (k : Nat) : CA ts P s (k + 1) = (CA ts P s k).filter fun x => MO P (gr s k) x := by
  unfold CA
  rw [List.filter_filter]
  apply List.filter_congr
  intro x _
  rw [List.range_succ, List.all_append, Bool.and_comm]; simp
theorem Gr (ts : List Int) (P : List AU) (s : Bs) (k : Nat) : (CA ts P s k).length ≤ ts.length := List.length_filter_le _ _
theorem IH (ts : List Int) (P : List AU) (s : Bs) : CA ts P s 0 = ts := by simp [CA]
theorem LZ (ts : List Int) (P : List AU) : Br ts P = (0, 0) ∨ (Br ts P).1 ≠ 0 := by
  unfold Br; split
  · exact .inr (by assumption)
  · exact K5 _ _ _
end Go.Proofs.YtmbjnkgpcbpclaaGreat
