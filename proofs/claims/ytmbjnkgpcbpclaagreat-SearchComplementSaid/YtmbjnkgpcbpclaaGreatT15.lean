/- Walks, printed by wip/gen/walk.py. -/
import Derived.Test.YtmbjnkgpcbpclaaGreatT10
import Derived.Test.YtmbjnkgpcbpclaaGreatV5
set_option linter.all false
set_option maxRecDepth 100000
set_option maxHeartbeats 4000000
namespace Go.Proofs.YtmbjnkgpcbpclaaGreat
open Go Go.Vc Go.RowKit
def ED (s p : Bs) : Bool := (List.range (s.length + 1 - p.length)).any fun i => decide ((s.drop i).take p.length = p)
theorem G7 {s p : Bs} {i : Nat} (hi : i < s.length + 1 - p.length) (h : (s.drop i).take p.length = p) : ED s p = true := List.any_eq_true.2 ⟨i, List.mem_range.2 hi, decide_eq_true h⟩
theorem Ke {s p : Bs} (h : ∀ j, j < s.length + 1 - p.length → (s.drop j).take p.length ≠ p) : ED s p = false := by
  unfold ED
  rw [Bool.eq_false_iff]; intro ha
  obtain ⟨i, hi, he⟩ := List.any_eq_true.1 ha
  exact h i (List.mem_range.1 hi) (of_decide_eq_true he)
def Uz (P : List AM) (g : Bs) (x : Int) : Prop := ∃ t, (g, t) ∈ P ∧ x ∈ t
def RU (P : List AM) (g : Bs) (x : Int) : Bool := Db P g && decide (x ∈ (P.getD (Ck P g) ([], [])).2)
theorem OQ {P : List AM} (hs : C7 P) {g : Bs} {t u : List Int} (h1 : (g, t) ∈ P) (h2 : (g, u) ∈ P) : t = u := by
  induction P with
  | nil => cases h1
  | cons p P ih =>
    obtain ⟨a1, a2⟩ := List.pairwise_cons.1 hs
    rcases List.mem_cons.1 h1 with e1 | h1' <;> rcases List.mem_cons.1 h2 with e2 | h2'
    · rw [← e1] at e2; exact (Prod.mk.inj e2).2.symm
    · have := a1 _ h2'; rw [← e1] at this; exact absurd rfl (Np this)
    · have := a1 _ h1'; rw [← e2] at this; exact absurd rfl (Np this)
    · exact ih a2 h1' h2'
theorem RW {P : List AM} (hs : C7 P) (g : Bs) (x : Int) : RU P g x = true ↔ Uz P g x := by
  unfold RU Uz
  rw [Bool.and_eq_true, decide_eq_true_eq]
  constructor
  · rintro ⟨h, hx⟩
    obtain ⟨t, ht⟩ := Ga hs h
    rw [BG ht] at hx
    exact ⟨t, AF ht, hx⟩
  · rintro ⟨t, h, hx⟩
    have hh : Db P g = true := decide_eq_true (List.mem_map.2 ⟨_, h, rfl⟩)
    obtain ⟨u, hu⟩ := Ga hs hh
    rw [BG hu]
    exact ⟨hh, by rw [OQ hs (AF hu) h]; exact hx⟩
theorem S9 {P : List AM} (h : GK P) {g g' : Bs} {n x : Int} : Uz (post P g n) g' x ↔ Uz P g' x ∨ (g' = g ∧ x = n) := by
  unfold post
  split
  · rename_i hh
    obtain ⟨t, ht⟩ := Ga h.sort hh
    rw [BG ht]
    have hlt := (List.getElem?_eq_some_iff.1 ht).1
    constructor
    · rintro ⟨u, hu, hx⟩
      rcases List.mem_or_eq_of_mem_set hu with hu | hu
      · exact .inl ⟨u, hu, hx⟩
      · obtain ⟨rfl, rfl⟩ := Prod.mk.inj hu
        rcases Iv.1 hx with rfl | hx
        · exact .inr ⟨rfl, rfl⟩
        · exact .inl ⟨t, AF ht, hx⟩
    · have hmem : (g, Hn t n) ∈ P.set (Ck P g) (g, Hn t n) := List.mem_of_getElem? (i := Ck P g) (by rw [List.getElem?_set]; simp [hlt])
      rintro (⟨u, hu, hx⟩ | ⟨rfl, rfl⟩)
      · by_cases hg : g' = g
        · subst hg
          have := OQ h.sort hu (AF ht); subst this
          exact ⟨_, hmem, Iv.2 (.inr hx)⟩
        · obtain ⟨i, hi⟩ := List.getElem?_of_mem hu
          refine ⟨u, List.mem_of_getElem? (i := i) ?_, hx⟩
          rw [List.getElem?_set]
          split
          · rename_i hk; subst hk; rw [ht] at hi; exact absurd (Prod.mk.inj (Option.some.inj hi)).1.symm hg
          · exact hi
      · exact ⟨_, hmem, Iv.2 (.inl rfl)⟩
  · have hd := List.take_append_drop (Ck P g) P
    constructor
    · rintro ⟨u, hu, hx⟩
      rcases List.mem_append.1 hu with hu | hu
      · exact .inl ⟨u, List.mem_of_mem_take hu, hx⟩
      · rcases List.mem_cons.1 hu with hu | hu
        · obtain ⟨rfl, rfl⟩ := Prod.mk.inj hu
          exact .inr ⟨rfl, by simpa using hx⟩
        · exact .inl ⟨u, List.mem_of_mem_drop hu, hx⟩
    · rintro (⟨u, hu, hx⟩ | ⟨rfl, rfl⟩)
      · refine ⟨u, ?_, hx⟩
        rw [← hd] at hu
        rcases List.mem_append.1 hu with hu | hu
        · exact List.mem_append.2 (.inl hu)
        · exact List.mem_append.2 (.inr (List.mem_cons_of_mem _ hu))
      · exact ⟨[x], List.mem_append.2 (.inr (by simp)), by simp⟩
theorem M3 {P : List AM} (h : GK P) {n x : Int} {s g : Bs} : ∀ {k : Nat}, Uz (AO P n s k) g x ↔ Uz P g x ∨ (x = n ∧ ∃ j, j < k ∧ gr s j = g)
  | 0 => by simp [AO]
  | k + 1 => by
    simp only [AO]
    rw [S9 (FX h k), M3 h (k := k)]
    constructor
    · rintro ((h | ⟨h1, j, h2, h3⟩) | ⟨h1, h2⟩)
      · exact .inl h
      · exact .inr ⟨h1, j, by omega, h3⟩
      · exact .inr ⟨h2, k, by omega, h1.symm⟩
    · rintro (h | ⟨h1, j, h2, h3⟩)
      · exact .inl (.inl h)
      · by_cases hj : j = k
        · subst hj; exact .inr ⟨h3.symm, h1⟩
        · exact .inl (.inr ⟨h1, j, by omega, h3⟩)
theorem Jc {ts : List Bs} {g : Bs} {x : Int} : ∀ {k : Nat}, Uz (D6 ts k) g x ↔ ∃ i : Nat, i < k ∧ x = i ∧ ∃ j, j < (ts.getD i []).length - 2 ∧ gr (ts.getD i []) j = g
  | 0 => by simp [D6, Uz]
  | k + 1 => by
    simp only [D6, LI]
    rw [M3 (ER ts k), Jc (k := k)]
    constructor
    · rintro (⟨i, h1, h2⟩ | ⟨h1, j, h2, h3⟩)
      · exact ⟨i, by omega, h2⟩
      · exact ⟨k, by omega, h1, j, h2, h3⟩
    · rintro ⟨i, h1, h2, h3⟩
      by_cases hi : i = k
      · subst hi; exact .inr ⟨h2, h3⟩
      · exact .inl ⟨i, by omega, h2, h3⟩
def WG (P : List AM) : Prop := ∀ p ∈ P, p.2 ≠ []
theorem Wd {l : List Int} {n : Int} : Hn l n ≠ [] := fun h => by have := (Iv (l := l) (n := n) (x := n)).2 (.inl rfl); rw [h] at this; cases this
theorem MA {Q : AM → Prop} {P : List AM} {g : Bs} {n : Int} (h : ∀ p ∈ P, Q p) (h1 : Q (g, [n])) (h2 : ∀ t, Q (g, Hn t n)) : ∀ p ∈ post P g n, Q p := by
  intro p hp
  unfold post at hp
  split at hp
  · rcases List.mem_or_eq_of_mem_set hp with hp | rfl
    · exact h p hp
    · exact h2 _
  · rcases List.mem_append.1 hp with hp | hp
    · exact h p (List.mem_of_mem_take hp)
    · rcases List.mem_cons.1 hp with rfl | hp
      · exact h1
      · exact h p (List.mem_of_mem_drop hp)
theorem UM {P : List AM} {g : Bs} {n : Int} (h : WG P) : WG (post P g n) := MA h (by simp) (fun t => Wd)
theorem OE {P : List AM} {n : Int} {s : Bs} (h : WG P) : ∀ k, WG (AO P n s k)
  | 0 => h
  | k + 1 => UM (OE h k)
theorem OL (ts : List Bs) : ∀ k, WG (D6 ts k)
  | 0 => fun p h => by cases h
  | k + 1 => OE (OL ts k) _
def Xa (P : List AM) : Prop := ∀ p ∈ P, p.1.length = 3
theorem OD {P : List AM} {n : Int} {s : Bs} (h : Xa P) : ∀ {k}, k ≤ s.length - 2 → Xa (AO P n s k)
  | 0, _ => h
  | k + 1, hk => MA (OD h (by omega)) (RR (by omega)) (fun t => RR (s := s) (i := k) (by omega))
theorem OK (ts : List Bs) : ∀ k, Xa (D6 ts k)
  | 0 => fun p h => by cases h
  | k + 1 => OD (OK ts k) (Nat.le_refl _)
structure LC (ts : List Int) (P : List AM) : Prop where
  tlen : ts.length ≤ 20
  trng : ∀ x ∈ ts, 0 ≤ x ∧ x < 20
  tsort : ts.Pairwise (· < ·)
  good : GK P
  g3 : Xa P
  ne : WG P
  sub : ∀ p ∈ P, ∀ x ∈ p.2, x ∈ ts
theorem DT {f : Nat → Int} {g : Nat → Int} : ∀ {n}, (CN f g n).1 = 0 → ∀ j, j < n → f j = 0
  | 0, _, j, hj => by omega
  | n + 1, h, j, hj => by
    unfold CN at h
    split at h
    · rename_i h1; exact absurd h h1
    · rename_i h1
      split at h
      · rename_i h2; exact absurd h h2
      · rename_i h2
        by_cases e : j = n
        · subst e; simpa using h2
        · exact DT (n := n) (by simpa using h1) j (by omega)
theorem V7 {l : List Int} (h : ∀ j, j < l.length → 0 < j → l.getD (j - 1) 0 < l.getD j 0) : l.Pairwise (· < ·) := by
  induction l with
  | nil => simp
  | cons a l ih =>
    have ih := ih (fun j hj h0 => by
      have := h (j + 1) (by simp; omega) (by omega)
      obtain ⟨j, rfl⟩ : ∃ i, j = i + 1 := ⟨j - 1, by omega⟩
      simpa using this)
    refine List.pairwise_cons.2 ⟨fun b hb => ?_, ih⟩
    cases l with
    | nil => cases hb
    | cons c l =>
      have h1 := h 1 (by simp) (by omega)
      simp at h1
      rcases List.mem_cons.1 hb with rfl | hb
      · exact h1
      · have := (List.pairwise_cons.1 ih).1 b hb; omega
theorem Tw {l : List Int} (h : l.Pairwise (· < ·)) : ∀ j, j < l.length → 0 < j → l.getD (j - 1) 0 < l.getD j 0 := by
  intro j hj h0
  obtain ⟨x, hx⟩ := Cb (l := l) (i := j) hj
  obtain ⟨y, hy⟩ := Cb (l := l) (i := j - 1) (by omega)
  rw [BG hx, BG hy]
  obtain ⟨h1, rfl⟩ := List.getElem?_eq_some_iff.1 hx
  obtain ⟨h2, rfl⟩ := List.getElem?_eq_some_iff.1 hy
  exact List.pairwise_iff_getElem.1 h (j - 1) j h2 h1 (by omega)
theorem Mm {l : List Int} : E3 l = true ↔ l.Pairwise (· < ·) := by
  constructor
  · intro h
    refine V7 fun j hj h0 => ?_
    unfold E3 at h
    have := List.all_eq_true.1 h j (List.mem_range.2 hj)
    simp only [Bool.or_eq_true, beq_iff_eq, decide_eq_true_eq] at this
    omega
  · intro h; exact IX (Tw h)
theorem Tx : ∀ {P : List AM}, (∀ j, j < P.length → 0 < j → Dc (P.getD (j - 1) ([], [])).1 (P.getD j ([], [])).1 = true) → C7 P
  | [], _ => List.Pairwise.nil
  | a :: P, h => by
    have ih := Tx (P := P) (fun j hj h0 => by
      have := h (j + 1) (by simp; omega) (by omega)
      obtain ⟨j, rfl⟩ : ∃ i, j = i + 1 := ⟨j - 1, by omega⟩
      simpa using this)
    refine List.pairwise_cons.2 ⟨fun b hb => ?_, ih⟩
    cases P with
    | nil => cases hb
    | cons c P =>
      have h1 := h 1 (by simp) (by omega)
      simp at h1
      rcases List.mem_cons.1 hb with rfl | hb
      · exact h1
      · exact Eo h1 ((List.pairwise_cons.1 ih).1 b hb)
theorem UZ {P : List AM} (h : C7 P) : ∀ j, j < P.length → 0 < j → Dc (P.getD (j - 1) ([], [])).1 (P.getD j ([], [])).1 = true := by
  intro j hj h0
  obtain ⟨x, hx⟩ := Cb (l := P) (i := j) hj
  obtain ⟨y, hy⟩ := Cb (l := P) (i := j - 1) (by omega)
  rw [BG hx, BG hy]
  obtain ⟨h1, rfl⟩ := List.getElem?_eq_some_iff.1 hx
  obtain ⟨h2, rfl⟩ := List.getElem?_eq_some_iff.1 hy
  exact List.pairwise_iff_getElem.1 h (j - 1) j h2 h1 (by omega)
theorem Ov {ts : List Int} {P : List AM} (h : (Ca ts P).1 = 0) : LC ts P := by
  unfold Ca at h
  split at h
  · rename_i h1; exact absurd h h1
  · rename_i h1
    simp only [ne_eq, Decidable.not_not] at h1
    have hp := DT h
    unfold J2 at h1
    split at h1
    · cases h1
    · rename_i hlen
      have ht := DT h1
      have hpf : ∀ j, j < P.length → (P.getD j ([], [])).1.length = 3 ∧ ¬((0 < j ∧ Dc (P.getD (j - 1) ([], [])).1 (P.getD j ([], [])).1 = false) ∨ (P.getD j ([], [])).2 = [] ∨ E3 (P.getD j ([], [])).2 = false) ∧ ¬ (P.getD j ([], [])).2.any (Ln ts) = true := by
        intro j hj
        have := hp j hj
        unfold Ix at this
        split at this
        · cases this
        · split at this
          · cases this
          · split at this
            · cases this
            · rename_i a b c; exact ⟨by simpa using a, b, c⟩
      have hel : ∀ p ∈ P, ∃ j, j < P.length ∧ P.getD j ([], []) = p := fun p hp => by
        obtain ⟨i, hi⟩ := List.getElem?_of_mem hp
        exact ⟨i, (List.getElem?_eq_some_iff.1 hi).1, BG hi⟩
      refine ⟨by omega, fun x hx => ?_, V7 fun j hj h0 => ?_, ⟨Tx fun j hj h0 => ?_, fun p hp => ?_⟩, fun p hp => ?_, fun p hp => ?_, fun p hp x hx => ?_⟩
      · obtain ⟨i, hi⟩ := List.getElem?_of_mem hx
        have := ht i (List.getElem?_eq_some_iff.1 hi).1
        unfold tf at this
        rw [BG hi] at this
        split at this
        · cases this
        · omega
      · have := ht j hj
        unfold tf at this
        split at this
        · cases this
        · split at this
          · cases this
          · omega
      · have := (hpf j hj).2.1
        cases hb : Dc (P.getD (j - 1) ([], [])).1 (P.getD j ([], [])).1 with
        | true => rfl
        | false => exact absurd (.inl ⟨h0, hb⟩) this
      · obtain ⟨j, hj, rfl⟩ := hel p hp
        have := (hpf j hj).2.1
        rw [← Mm]
        cases hb : E3 (P.getD j ([], [])).2 with
        | true => rfl
        | false => exact absurd (.inr (.inr hb)) this
      · obtain ⟨j, hj, rfl⟩ := hel p hp; exact (hpf j hj).1
      · obtain ⟨j, hj, rfl⟩ := hel p hp; exact fun e => (hpf j hj).2.1 (.inr (.inl e))
      · obtain ⟨j, hj, rfl⟩ := hel p hp
        by_cases hm : x ∈ ts
        · exact hm
        · exact absurd (List.any_eq_true.2 ⟨x, hx, by simp [Ln, hm]⟩) (hpf j hj).2.2
theorem W9 {ts : List Int} {P : List AM} (h : LC ts P) : Ca ts P = (0, 0) := by
  have h1 : J2 ts = (0, 0) := by
    unfold J2
    rw [if_neg (by have := h.tlen; omega)]
    refine C8 fun j hj => ?_
    obtain ⟨x, hx⟩ := Cb (l := ts) (i := j) hj
    have := h.trng x (AF hx)
    unfold tf
    rw [if_neg (by rw [BG hx]; omega), if_neg]
    rintro ⟨h0, h2⟩
    have := Tw h.tsort j hj h0
    omega
  unfold Ca
  rw [h1, if_neg (by simp)]
  refine C8 fun j hj => ?_
  obtain ⟨p, hp⟩ := Cb (l := P) (i := j) hj
  have hm := AF hp
  unfold Ix
  rw [BG hp, if_neg (by rw [h.g3 p hm]; simp), if_neg, if_neg]
  · intro ha
    obtain ⟨x, hx, hb⟩ := List.any_eq_true.1 ha
    simp [Ln, h.sub p hm x hx] at hb
  · rintro (⟨h0, hb⟩ | hb | hb)
    · have := UZ h.good.sort j hj h0
      rw [BG hp] at this; rw [this] at hb; cases hb
    · exact h.ne p hm hb
    · rw [Mm.2 (h.good.rise p hm)] at hb; cases hb
theorem Vi {ts : List Bs} (hn : ts.length ≤ 20) : LC (Ek ts.length) (D6 ts ts.length) :=
  ⟨by rw [CF]; exact hn, fun x hx => by have := E0.1 hx; omega, Kg _, ER _ _, OK _ _, OL _ _, fun p hp x hx => by
    obtain ⟨i, h1, h2, _⟩ := Jc.1 (show Uz (D6 ts ts.length) p.1 x from ⟨p.2, hp, hx⟩)
    rw [E0]; omega⟩
theorem XW : ∀ {l : List Nat} {a b : Nat}, l.Pairwise (· < ·) → (∀ x ∈ l, a ≤ x ∧ x < b) → l.length ≤ b - a
  | [], _, _, _, _ => Nat.zero_le _
  | x :: l, a, b, hs, hb => by
    obtain ⟨h1, h2⟩ := List.pairwise_cons.1 hs
    have := XW (l := l) (a := x + 1) (b := b) h2 (fun y hy => ⟨h1 y hy, (hb y (by simp [hy])).2⟩)
    have := hb x (by simp)
    simp only [List.length_cons]; omega
def RQ : Bs → Nat
  | [a, b, c] => a.toNat * 65536 + b.toNat * 256 + c.toNat
  | _ => 0
theorem Uw {a b : Bs} (ha : a.length = 3) (hb : b.length = 3) (h : Dc a b = true) : RQ a < RQ b := by
  match a, b, ha, hb with
  | [a1, a2, a3], [b1, b2, b3], _, _ =>
    simp only [Dc, Op.bytesLess, Bool.or_eq_true, Bool.and_eq_true, decide_eq_true_eq, beq_iff_eq, UInt8.lt_iff_toNat_lt] at h
    have := a2.toNat_lt; have := a3.toNat_lt; have := b2.toNat_lt; have := b3.toNat_lt
    simp only [RQ]
    rcases h with h | ⟨rfl, h | ⟨rfl, h⟩⟩
    · omega
    · omega
    · simp at h; omega
theorem Wb {P : List AM} (h : Xa P) (hs : C7 P) : P.length ≤ 16777216 := by
  have h2 : (P.map fun p => RQ p.1).Pairwise (· < ·) := by
    rw [List.pairwise_map]
    exact List.Pairwise.imp_of_mem (fun ha hb hab => Uw (h _ ha) (h _ hb) hab) hs
  have := XW (a := 0) (b := 16777216) h2 (fun x hx => by
    obtain ⟨p, hp, rfl⟩ := List.mem_map.1 hx
    have h3 := h p hp
    obtain ⟨g, t⟩ := p
    match g, h3 with
    | [a, b, c], _ => have := a.toNat_lt; have := b.toNat_lt; have := c.toNat_lt; simp only [RQ]; omega)
  simpa using this
theorem Ty {l : List Int} (hs : l.Pairwise (· < ·)) (h : ∀ x ∈ l, 0 ≤ x ∧ x < 20) : l.length ≤ 20 := by
  have h2 : (l.map Int.toNat).Pairwise (· < ·) := by
    rw [List.pairwise_map]
    exact List.Pairwise.imp_of_mem (fun ha hb hab => by have := h _ ha; have := h _ hb; omega) hs
  have := XW (a := 0) (b := 20) h2 (fun x hx => by
    obtain ⟨y, hy, rfl⟩ := List.mem_map.1 hx
    have := h y hy; omega)
  simpa using this
theorem LC.plen {ts : List Int} {P : List AM} (h : LC ts P) : P.length ≤ 16777216 := Wb h.g3 h.good.sort
theorem LC.pmax {ts : List Int} {P : List AM} (h : LC ts P) : ∀ p ∈ P, p.2.length ≤ 20 := fun p hp => Ty (h.good.rise p hp) (fun x hx => h.trng x (h.sub p hp x hx))
def Dl (ts : List Int) (P : List AM) (s : Bs) (k : Nat) : List Int := ts.filter fun x => (List.range k).all fun j => RU P (gr s j) x
def Dt (ts : List Int) (P : List AM) (s : Bs) : Int × Int := if (Ca ts P).1 ≠ 0 then Ca ts P else if 400 < s.length then (10, -1) else (0, 0)
def DR (ts : List Int) (P : List AM) (s : Bs) : List Int := if (Dt ts P s).1 ≠ 0 then [] else Dl ts P s (s.length - 2)
theorem Ns (ts : List Int) (P : List AM) (s : Bs) (k : Nat) : Dl ts P s (k + 1) = (Dl ts P s k).filter fun x => RU P (gr s k) x := by
  unfold Dl
  rw [List.filter_filter]
  apply List.filter_congr
  intro x _
  rw [List.range_succ, List.all_append, Bool.and_comm]; simp
theorem Hw (ts : List Int) (P : List AM) (s : Bs) (k : Nat) : (Dl ts P s k).length ≤ ts.length := List.length_filter_le _ _
theorem Is (ts : List Int) (P : List AM) (s : Bs) : Dl ts P s 0 = ts := by simp [Dl]
theorem Lz (ts : List Int) (P : List AM) : Ca ts P = (0, 0) ∨ (Ca ts P).1 ≠ 0 := by
  unfold Ca; split
  · exact .inr (by assumption)
  · exact Kb _ _ _
end Go.Proofs.YtmbjnkgpcbpclaaGreat
