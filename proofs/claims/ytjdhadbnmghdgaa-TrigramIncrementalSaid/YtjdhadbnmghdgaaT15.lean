/- Walks, printed by wip/gen/walk.py. -/
import Derived.Test.YtjdhadbnmghdgaaT14
import Derived.Test.YtjdhadbnmghdgaaV5
set_option linter.all false
set_option maxRecDepth 100000
set_option maxHeartbeats 4000000
namespace Go.Proofs.Ytjdhadbnmghdgaa
open Go Go.Vc Go.RowKit
/-- Sorted lists with the same members are the same. -/
theorem sorted_ext : ∀ {l m : List Int}, l.Pairwise (· < ·) → m.Pairwise (· < ·) → (∀ x, x ∈ l ↔ x ∈ m) → l = m := by
  intro l
  induction l with
  | nil =>
    intro m _ _ h
    cases m with
    | nil => rfl
    | cons b m => exact absurd ((h b).2 (by simp)) (by simp)
  | cons a l ih =>
    intro m hl hm h
    cases m with
    | nil => exact absurd ((h a).1 (by simp)) (by simp)
    | cons b m =>
      have hl' := List.pairwise_cons.1 hl
      have hm' := List.pairwise_cons.1 hm
      have hab : a = b := by
        have h1 := (h a).1 (by simp)
        have h2 := (h b).2 (by simp)
        rcases List.mem_cons.1 h1 with h1 | h1
        · exact h1
        · rcases List.mem_cons.1 h2 with h2 | h2
          · exact h2.symm
          · have := hm'.1 a h1; have := hl'.1 b h2; omega
      subst hab
      refine congrArg _ (ih hl'.2 hm'.2 fun x => ⟨fun hx => ?_, fun hx => ?_⟩)
      · rcases List.mem_cons.1 ((h x).1 (by simp [hx])) with h' | h'
        · have := hl'.1 x hx; omega
        · exact h'
      · rcases List.mem_cons.1 ((h x).2 (by simp [hx])) with h' | h'
        · have := hm'.1 x hx; omega
        · exact h'

def inP (P : List Post) (g : Bs) (x : Int) : Prop := ∃ t, (g, t) ∈ P ∧ x ∈ t
def hasT (P : List Post) (g : Bs) (x : Int) : Bool := hasG' P g && decide (x ∈ (P.getD (lbG P g) ([], [])).2)
theorem key_uni {P : List Post} (hs : SortG P) {g : Bs} {t u : List Int} (h1 : (g, t) ∈ P) (h2 : (g, u) ∈ P) : t = u := by
  induction P with
  | nil => cases h1
  | cons p P ih =>
    obtain ⟨a1, a2⟩ := List.pairwise_cons.1 hs
    rcases List.mem_cons.1 h1 with e1 | h1' <;> rcases List.mem_cons.1 h2 with e2 | h2'
    · rw [← e1] at e2; exact (Prod.mk.inj e2).2.symm
    · have := a1 _ h2'; rw [← e1] at this; exact absurd rfl (blt_ne this)
    · have := a1 _ h1'; rw [← e2] at this; exact absurd rfl (blt_ne this)
    · exact ih a2 h1' h2'
theorem hasT_iff {P : List Post} (hs : SortG P) (g : Bs) (x : Int) : hasT P g x = true ↔ inP P g x := by
  unfold hasT inP
  rw [Bool.and_eq_true, decide_eq_true_eq]
  constructor
  · rintro ⟨h, hx⟩
    obtain ⟨t, ht⟩ := has_get hs h
    rw [getD_at ht] at hx
    exact ⟨t, mem_at ht, hx⟩
  · rintro ⟨t, h, hx⟩
    have hh : hasG' P g = true := decide_eq_true (List.mem_map.2 ⟨_, h, rfl⟩)
    obtain ⟨u, hu⟩ := has_get hs hh
    rw [getD_at hu]
    exact ⟨hh, by rw [key_uni hs (mem_at hu) h]; exact hx⟩
theorem mem_post {P : List Post} (h : GoodP P) {g g' : Bs} {n x : Int} : inP (post P g n) g' x ↔ inP P g' x ∨ (g' = g ∧ x = n) := by
  unfold post
  split
  · rename_i hh
    obtain ⟨t, ht⟩ := has_get h.sort hh
    rw [getD_at ht]
    have hlt := (List.getElem?_eq_some_iff.1 ht).1
    constructor
    · rintro ⟨u, hu, hx⟩
      rcases List.mem_or_eq_of_mem_set hu with hu | hu
      · exact .inl ⟨u, hu, hx⟩
      · obtain ⟨rfl, rfl⟩ := Prod.mk.inj hu
        rcases ins_mem.1 hx with rfl | hx
        · exact .inr ⟨rfl, rfl⟩
        · exact .inl ⟨t, mem_at ht, hx⟩
    · have hmem : (g, ins t n) ∈ P.set (lbG P g) (g, ins t n) := List.mem_of_getElem? (i := lbG P g) (by rw [List.getElem?_set]; simp [hlt])
      rintro (⟨u, hu, hx⟩ | ⟨rfl, rfl⟩)
      · by_cases hg : g' = g
        · subst hg
          have := key_uni h.sort hu (mem_at ht); subst this
          exact ⟨_, hmem, ins_mem.2 (.inr hx)⟩
        · obtain ⟨i, hi⟩ := List.getElem?_of_mem hu
          refine ⟨u, List.mem_of_getElem? (i := i) ?_, hx⟩
          rw [List.getElem?_set]
          split
          · rename_i hk; subst hk; rw [ht] at hi; exact absurd (Prod.mk.inj (Option.some.inj hi)).1.symm hg
          · exact hi
      · exact ⟨_, hmem, ins_mem.2 (.inl rfl)⟩
  · have hd := List.take_append_drop (lbG P g) P
    constructor
    · rintro ⟨u, hu, hx⟩
      rcases List.mem_append.1 hu with hu | hu
      · exact .inl ⟨u, List.mem_of_mem_take hu, hx⟩
      · rcases List.mem_cons.1 hu with hu | hu
        · obtain ⟨rfl, rfl⟩ := Prod.mk.inj hu
          exact .inr ⟨rfl, by simpa using hx⟩
        · exact .inl ⟨u, List.mem_of_mem_drop hu, hx⟩
    · rintro (⟨u, hu, hx⟩ | ⟨rfl, rfl⟩)
      · refine ⟨u, ?_, hx⟩
        rw [← hd] at hu
        rcases List.mem_append.1 hu with hu | hu
        · exact List.mem_append.2 (.inl hu)
        · exact List.mem_append.2 (.inr (List.mem_cons_of_mem _ hu))
      · exact ⟨[x], List.mem_append.2 (.inr (by simp)), by simp⟩
theorem mem_addK {P : List Post} (h : GoodP P) {n x : Int} {s g : Bs} : ∀ {k : Nat}, inP (addK P n s k) g x ↔ inP P g x ∨ (x = n ∧ ∃ j, j < k ∧ gr s j = g)
  | 0 => by simp [addK]
  | k + 1 => by
    simp only [addK]
    rw [mem_post (addK_good h k), mem_addK h (k := k)]
    constructor
    · rintro ((h | ⟨h1, j, h2, h3⟩) | ⟨h1, h2⟩)
      · exact .inl h
      · exact .inr ⟨h1, j, by omega, h3⟩
      · exact .inr ⟨h2, k, by omega, h1.symm⟩
    · rintro (h | ⟨h1, j, h2, h3⟩)
      · exact .inl (.inl h)
      · by_cases hj : j = k
        · subst hj; exact .inr ⟨h3.symm, h1⟩
        · exact .inl (.inr ⟨h1, j, by omega, h3⟩)
theorem mem_idxK {ts : List Bs} {g : Bs} {x : Int} : ∀ {k : Nat}, inP (idxK ts k) g x ↔ ∃ i : Nat, i < k ∧ x = i ∧ ∃ j, j < (ts.getD i []).length - 2 ∧ gr (ts.getD i []) j = g
  | 0 => by simp [idxK, inP]
  | k + 1 => by
    simp only [idxK, addP]
    rw [mem_addK (idxK_good ts k), mem_idxK (k := k)]
    constructor
    · rintro (⟨i, h1, h2⟩ | ⟨h1, j, h2, h3⟩)
      · exact ⟨i, by omega, h2⟩
      · exact ⟨k, by omega, h1, j, h2, h3⟩
    · rintro ⟨i, h1, h2, h3⟩
      by_cases hi : i = k
      · subst hi; exact .inr ⟨h2, h3⟩
      · exact .inl ⟨i, by omega, h2, h3⟩
def neP (P : List Post) : Prop := ∀ p ∈ P, p.2 ≠ []
theorem in_key {P : List Post} {g : Bs} {x : Int} (h : inP P g x) : g ∈ P.map (·.1) := by obtain ⟨t, h, _⟩ := h; exact List.mem_map.2 ⟨_, h, rfl⟩
theorem post_ext : ∀ {P Q : List Post}, GoodP P → GoodP Q → neP P → neP Q → (∀ g x, inP P g x ↔ inP Q g x) → P = Q
  | [], [], _, _, _, _, _ => rfl
  | [], (g, t) :: Q, _, _, _, n2, h => by
    cases t with
    | nil => exact absurd rfl (n2 (g, []) (by simp))
    | cons a t => obtain ⟨u, hu, _⟩ := (h g a).2 ⟨a :: t, by simp, by simp⟩; cases hu
  | (g, t) :: P, [], _, _, n1, _, h => by
    cases t with
    | nil => exact absurd rfl (n1 (g, []) (by simp))
    | cons a t => obtain ⟨u, hu, _⟩ := (h g a).1 ⟨a :: t, by simp, by simp⟩; cases hu
  | (g, t) :: P, (g', t') :: Q, g1, g2, n1, n2, h => by
    obtain ⟨a1, a2⟩ := List.pairwise_cons.1 g1.sort
    obtain ⟨b1, b2⟩ := List.pairwise_cons.1 g2.sort
    have key : ∀ {g g' : Bs} {t t' : List Int} {P Q : List Post}, (∀ q ∈ Q, blt g' q.1 = true) → t ≠ [] → (∀ k x, inP ((g, t) :: P) k x → inP ((g', t') :: Q) k x) → blt g g' = false := by
      intro g g' t t' P Q hq ht hin
      cases hb : blt g g' with
      | false => rfl
      | true =>
        cases t with
        | nil => exact absurd rfl ht
        | cons a t =>
          have := in_key (hin g a ⟨a :: t, by simp, by simp⟩)
          rw [List.map_cons, List.mem_cons] at this
          rcases this with e | e
          · exact absurd e (blt_ne hb)
          · obtain ⟨q, hq1, hq2⟩ := List.mem_map.1 e
            have := hq q hq1
            rw [hq2] at this
            exact absurd rfl (blt_ne (blt_trans this hb))
    have e : g = g' := blt_total (key (g := g) (g' := g') (t := t) (t' := t') (P := P) b1 (n1 (g, t) (by simp)) (fun g x => (h g x).1)) (key (g := g') (g' := g) (t := t') (t' := t) (P := Q) a1 (n2 (g', t') (by simp)) (fun g x => (h g x).2))
    subst e
    have n3 : ∀ {R : List Post} {u : List Int}, (∀ q ∈ R, blt g q.1 = true) → ∀ {x}, inP ((g, u) :: R) g x ↔ x ∈ u := by
      intro R u hr x
      constructor
      · rintro ⟨v, hv, hx⟩
        rcases List.mem_cons.1 hv with e | hv
        · rw [(Prod.mk.inj e).2] at hx; exact hx
        · exact absurd rfl (blt_ne (hr _ hv))
      · intro hx; exact ⟨u, by simp, hx⟩
    have n4 : ∀ {R : List Post} {u : List Int} {k : Bs} {x}, k ≠ g → (inP ((g, u) :: R) k x ↔ inP R k x) := by
      intro R u k x hk
      constructor
      · rintro ⟨v, hv, hx⟩
        rcases List.mem_cons.1 hv with e | hv
        · exact absurd (Prod.mk.inj e).1 hk
        · exact ⟨v, hv, hx⟩
      · rintro ⟨v, hv, hx⟩; exact ⟨v, List.mem_cons_of_mem _ hv, hx⟩
    have n5 : ∀ {R : List Post} {x}, (∀ q ∈ R, blt g q.1 = true) → ¬ inP R g x := by
      rintro R x hr ⟨v, hv, _⟩; exact absurd rfl (blt_ne (hr _ hv))
    have e2 : t = t' := sorted_ext (g1.rise _ (List.mem_cons_self ..)) (g2.rise _ (List.mem_cons_self ..)) (fun x => by rw [← n3 a1, ← n3 b1]; exact h g x)
    subst e2
    rw [post_ext ⟨a2, fun p hp => g1.rise p (List.mem_cons_of_mem _ hp)⟩ ⟨b2, fun p hp => g2.rise p (List.mem_cons_of_mem _ hp)⟩ (fun p hp => n1 p (List.mem_cons_of_mem _ hp)) (fun p hp => n2 p (List.mem_cons_of_mem _ hp)) (fun k x => by
      by_cases hk : k = g
      · subst hk; exact ⟨fun h => absurd h (n5 a1), fun h => absurd h (n5 b1)⟩
      · rw [← n4 (u := t) (R := P) hk, h k x, n4 hk])]
theorem ins_ne {l : List Int} {n : Int} : ins l n ≠ [] := fun h => by have := (ins_mem (l := l) (n := n) (x := n)).2 (.inl rfl); rw [h] at this; cases this
theorem post_all {Q : Post → Prop} {P : List Post} {g : Bs} {n : Int} (h : ∀ p ∈ P, Q p) (h1 : Q (g, [n])) (h2 : ∀ t, Q (g, ins t n)) : ∀ p ∈ post P g n, Q p := by
  intro p hp
  unfold post at hp
  split at hp
  · rcases List.mem_or_eq_of_mem_set hp with hp | rfl
    · exact h p hp
    · exact h2 _
  · rcases List.mem_append.1 hp with hp | hp
    · exact h p (List.mem_of_mem_take hp)
    · rcases List.mem_cons.1 hp with rfl | hp
      · exact h1
      · exact h p (List.mem_of_mem_drop hp)
theorem post_ne {P : List Post} {g : Bs} {n : Int} (h : neP P) : neP (post P g n) := post_all h (by simp) (fun t => ins_ne)
theorem addK_ne {P : List Post} {n : Int} {s : Bs} (h : neP P) : ∀ k, neP (addK P n s k)
  | 0 => h
  | k + 1 => post_ne (addK_ne h k)
theorem idxK_ne (ts : List Bs) : ∀ k, neP (idxK ts k)
  | 0 => fun p h => by cases h
  | k + 1 => addK_ne (idxK_ne ts k) _
def g3P (P : List Post) : Prop := ∀ p ∈ P, p.1.length = 3
theorem addK_g3 {P : List Post} {n : Int} {s : Bs} (h : g3P P) : ∀ {k}, k ≤ s.length - 2 → g3P (addK P n s k)
  | 0, _ => h
  | k + 1, hk => post_all (addK_g3 h (by omega)) (gr_len (by omega)) (fun t => gr_len (s := s) (i := k) (by omega))
theorem idxK_g3 (ts : List Bs) : ∀ k, g3P (idxK ts k)
  | 0 => fun p h => by cases h
  | k + 1 => addK_g3 (idxK_g3 ts k) (Nat.le_refl _)
/-- A valid index. -/
structure ValP (ts : List Int) (P : List Post) : Prop where
  tlen : ts.length ≤ 20
  trng : ∀ x ∈ ts, 0 ≤ x ∧ x < 20
  tsort : ts.Pairwise (· < ·)
  good : GoodP P
  g3 : g3P P
  ne : neP P
  sub : ∀ p ∈ P, ∀ x ∈ p.2, x ∈ ts
theorem firstF_zero {f : Nat → Int} {g : Nat → Int} : ∀ {n}, (firstF f g n).1 = 0 → ∀ j, j < n → f j = 0
  | 0, _, j, hj => by omega
  | n + 1, h, j, hj => by
    unfold firstF at h
    split at h
    · rename_i h1; exact absurd h h1
    · rename_i h1
      split at h
      · rename_i h2; exact absurd h h2
      · rename_i h2
        by_cases e : j = n
        · subst e; simpa using h2
        · exact firstF_zero (n := n) (by simpa using h1) j (by omega)
theorem sortD {l : List Int} (h : ∀ j, j < l.length → 0 < j → l.getD (j - 1) 0 < l.getD j 0) : l.Pairwise (· < ·) := by
  induction l with
  | nil => simp
  | cons a l ih =>
    have ih := ih (fun j hj h0 => by
      have := h (j + 1) (by simp; omega) (by omega)
      obtain ⟨j, rfl⟩ : ∃ i, j = i + 1 := ⟨j - 1, by omega⟩
      simpa using this)
    refine List.pairwise_cons.2 ⟨fun b hb => ?_, ih⟩
    cases l with
    | nil => cases hb
    | cons c l =>
      have h1 := h 1 (by simp) (by omega)
      simp at h1
      rcases List.mem_cons.1 hb with rfl | hb
      · exact h1
      · have := (List.pairwise_cons.1 ih).1 b hb; omega
theorem sortD' {l : List Int} (h : l.Pairwise (· < ·)) : ∀ j, j < l.length → 0 < j → l.getD (j - 1) 0 < l.getD j 0 := by
  intro j hj h0
  obtain ⟨x, hx⟩ := getE (l := l) (i := j) hj
  obtain ⟨y, hy⟩ := getE (l := l) (i := j - 1) (by omega)
  rw [getD_at hx, getD_at hy]
  obtain ⟨h1, rfl⟩ := List.getElem?_eq_some_iff.1 hx
  obtain ⟨h2, rfl⟩ := List.getElem?_eq_some_iff.1 hy
  exact List.pairwise_iff_getElem.1 h (j - 1) j h2 h1 (by omega)
theorem inc_sort {l : List Int} : incB l = true ↔ l.Pairwise (· < ·) := by
  constructor
  · intro h
    refine sortD fun j hj h0 => ?_
    unfold incB at h
    have := List.all_eq_true.1 h j (List.mem_range.2 hj)
    simp only [Bool.or_eq_true, beq_iff_eq, decide_eq_true_eq] at this
    omega
  · intro h; exact incB_yes (sortD' h)
theorem sortGD : ∀ {P : List Post}, (∀ j, j < P.length → 0 < j → blt (P.getD (j - 1) ([], [])).1 (P.getD j ([], [])).1 = true) → SortG P
  | [], _ => List.Pairwise.nil
  | a :: P, h => by
    have ih := sortGD (P := P) (fun j hj h0 => by
      have := h (j + 1) (by simp; omega) (by omega)
      obtain ⟨j, rfl⟩ : ∃ i, j = i + 1 := ⟨j - 1, by omega⟩
      simpa using this)
    refine List.pairwise_cons.2 ⟨fun b hb => ?_, ih⟩
    cases P with
    | nil => cases hb
    | cons c P =>
      have h1 := h 1 (by simp) (by omega)
      simp at h1
      rcases List.mem_cons.1 hb with rfl | hb
      · exact h1
      · exact blt_trans h1 ((List.pairwise_cons.1 ih).1 b hb)
theorem sortGD' {P : List Post} (h : SortG P) : ∀ j, j < P.length → 0 < j → blt (P.getD (j - 1) ([], [])).1 (P.getD j ([], [])).1 = true := by
  intro j hj h0
  obtain ⟨x, hx⟩ := getE (l := P) (i := j) hj
  obtain ⟨y, hy⟩ := getE (l := P) (i := j - 1) (by omega)
  rw [getD_at hx, getD_at hy]
  obtain ⟨h1, rfl⟩ := List.getElem?_eq_some_iff.1 hx
  obtain ⟨h2, rfl⟩ := List.getElem?_eq_some_iff.1 hy
  exact List.pairwise_iff_getElem.1 h (j - 1) j h2 h1 (by omega)
theorem val_of {ts : List Int} {P : List Post} (h : (valF ts P).1 = 0) : ValP ts P := by
  unfold valF at h
  split at h
  · rename_i h1; exact absurd h h1
  · rename_i h1
    simp only [ne_eq, Decidable.not_not] at h1
    have hp := firstF_zero h
    unfold txF at h1
    split at h1
    · cases h1
    · rename_i hlen
      have ht := firstF_zero h1
      have hpf : ∀ j, j < P.length → (P.getD j ([], [])).1.length = 3 ∧ ¬((0 < j ∧ blt (P.getD (j - 1) ([], [])).1 (P.getD j ([], [])).1 = false) ∨ (P.getD j ([], [])).2 = [] ∨ incB (P.getD j ([], [])).2 = false) ∧ ¬ (P.getD j ([], [])).2.any (outB ts) = true := by
        intro j hj
        have := hp j hj
        unfold pfT at this
        split at this
        · cases this
        · split at this
          · cases this
          · split at this
            · cases this
            · rename_i a b c; exact ⟨by simpa using a, b, c⟩
      have hel : ∀ p ∈ P, ∃ j, j < P.length ∧ P.getD j ([], []) = p := fun p hp => by
        obtain ⟨i, hi⟩ := List.getElem?_of_mem hp
        exact ⟨i, (List.getElem?_eq_some_iff.1 hi).1, getD_at hi⟩
      refine ⟨by omega, fun x hx => ?_, sortD fun j hj h0 => ?_, ⟨sortGD fun j hj h0 => ?_, fun p hp => ?_⟩, fun p hp => ?_, fun p hp => ?_, fun p hp x hx => ?_⟩
      · obtain ⟨i, hi⟩ := List.getElem?_of_mem hx
        have := ht i (List.getElem?_eq_some_iff.1 hi).1
        unfold tf at this
        rw [getD_at hi] at this
        split at this
        · cases this
        · omega
      · have := ht j hj
        unfold tf at this
        split at this
        · cases this
        · split at this
          · cases this
          · omega
      · have := (hpf j hj).2.1
        cases hb : blt (P.getD (j - 1) ([], [])).1 (P.getD j ([], [])).1 with
        | true => rfl
        | false => exact absurd (.inl ⟨h0, hb⟩) this
      · obtain ⟨j, hj, rfl⟩ := hel p hp
        have := (hpf j hj).2.1
        rw [← inc_sort]
        cases hb : incB (P.getD j ([], [])).2 with
        | true => rfl
        | false => exact absurd (.inr (.inr hb)) this
      · obtain ⟨j, hj, rfl⟩ := hel p hp; exact (hpf j hj).1
      · obtain ⟨j, hj, rfl⟩ := hel p hp; exact fun e => (hpf j hj).2.1 (.inr (.inl e))
      · obtain ⟨j, hj, rfl⟩ := hel p hp
        by_cases hm : x ∈ ts
        · exact hm
        · exact absurd (List.any_eq_true.2 ⟨x, hx, by simp [outB, hm]⟩) (hpf j hj).2.2
theorem val_to {ts : List Int} {P : List Post} (h : ValP ts P) : valF ts P = (0, 0) := by
  have h1 : txF ts = (0, 0) := by
    unfold txF
    rw [if_neg (by have := h.tlen; omega)]
    refine firstF_none fun j hj => ?_
    obtain ⟨x, hx⟩ := getE (l := ts) (i := j) hj
    have := h.trng x (mem_at hx)
    unfold tf
    rw [if_neg (by rw [getD_at hx]; omega), if_neg]
    rintro ⟨h0, h2⟩
    have := sortD' h.tsort j hj h0
    omega
  unfold valF
  rw [h1, if_neg (by simp)]
  refine firstF_none fun j hj => ?_
  obtain ⟨p, hp⟩ := getE (l := P) (i := j) hj
  have hm := mem_at hp
  unfold pfT
  rw [getD_at hp, if_neg (by rw [h.g3 p hm]; simp), if_neg, if_neg]
  · intro ha
    obtain ⟨x, hx, hb⟩ := List.any_eq_true.1 ha
    simp [outB, h.sub p hm x hx] at hb
  · rintro (⟨h0, hb⟩ | hb | hb)
    · have := sortGD' h.good.sort j hj h0
      rw [getD_at hp] at this; rw [this] at hb; cases hb
    · exact h.ne p hm hb
    · rw [inc_sort.2 (h.good.rise p hm)] at hb; cases hb
/-- The index of texts is valid. -/
theorem val_idx {ts : List Bs} (hn : ts.length ≤ 20) : ValP (iota ts.length) (idxK ts ts.length) :=
  ⟨by rw [iota_len]; exact hn, fun x hx => by have := mem_iota.1 hx; omega, iota_sort _, idxK_good _ _, idxK_g3 _ _, idxK_ne _ _, fun p hp x hx => by
    obtain ⟨i, h1, h2, _⟩ := mem_idxK.1 (show inP (idxK ts ts.length) p.1 x from ⟨p.2, hp, hx⟩)
    rw [mem_iota]; omega⟩
/-- Numbers that rise below a bound are few. -/
theorem few : ∀ {l : List Nat} {a b : Nat}, l.Pairwise (· < ·) → (∀ x ∈ l, a ≤ x ∧ x < b) → l.length ≤ b - a
  | [], _, _, _, _ => Nat.zero_le _
  | x :: l, a, b, hs, hb => by
    obtain ⟨h1, h2⟩ := List.pairwise_cons.1 hs
    have := few (l := l) (a := x + 1) (b := b) h2 (fun y hy => ⟨h1 y hy, (hb y (by simp [hy])).2⟩)
    have := hb x (by simp)
    simp only [List.length_cons]; omega
def gnum : Bs → Nat
  | [a, b, c] => a.toNat * 65536 + b.toNat * 256 + c.toNat
  | _ => 0
theorem gnum_lt {a b : Bs} (ha : a.length = 3) (hb : b.length = 3) (h : blt a b = true) : gnum a < gnum b := by
  match a, b, ha, hb with
  | [a1, a2, a3], [b1, b2, b3], _, _ =>
    simp only [blt, Op.bytesLess, Bool.or_eq_true, Bool.and_eq_true, decide_eq_true_eq, beq_iff_eq, UInt8.lt_iff_toNat_lt] at h
    have := a2.toNat_lt; have := a3.toNat_lt; have := b2.toNat_lt; have := b3.toNat_lt
    simp only [gnum]
    rcases h with h | ⟨rfl, h | ⟨rfl, h⟩⟩
    · omega
    · omega
    · simp at h; omega
theorem g3_few {P : List Post} (h : g3P P) (hs : SortG P) : P.length ≤ 16777216 := by
  have h2 : (P.map fun p => gnum p.1).Pairwise (· < ·) := by
    rw [List.pairwise_map]
    exact List.Pairwise.imp_of_mem (fun ha hb hab => gnum_lt (h _ ha) (h _ hb) hab) hs
  have := few (a := 0) (b := 16777216) h2 (fun x hx => by
    obtain ⟨p, hp, rfl⟩ := List.mem_map.1 hx
    have h3 := h p hp
    obtain ⟨g, t⟩ := p
    match g, h3 with
    | [a, b, c], _ => have := a.toNat_lt; have := b.toNat_lt; have := c.toNat_lt; simp only [gnum]; omega)
  simpa using this
theorem sort_few {l : List Int} (hs : l.Pairwise (· < ·)) (h : ∀ x ∈ l, 0 ≤ x ∧ x < 20) : l.length ≤ 20 := by
  have h2 : (l.map Int.toNat).Pairwise (· < ·) := by
    rw [List.pairwise_map]
    exact List.Pairwise.imp_of_mem (fun ha hb hab => by have := h _ ha; have := h _ hb; omega) hs
  have := few (a := 0) (b := 20) h2 (fun x hx => by
    obtain ⟨y, hy, rfl⟩ := List.mem_map.1 hx
    have := h y hy; omega)
  simpa using this
theorem ValP.plen {ts : List Int} {P : List Post} (h : ValP ts P) : P.length ≤ 16777216 := g3_few h.g3 h.good.sort
theorem ValP.pmax {ts : List Int} {P : List Post} (h : ValP ts P) : ∀ p ∈ P, p.2.length ≤ 20 := fun p hp => sort_few (h.good.rise p hp) (fun x hx => h.trng x (h.sub p hp x hx))
/-- The texts with the first grams. -/
def candK (ts : List Int) (P : List Post) (s : Bs) (k : Nat) : List Int := ts.filter fun x => (List.range k).all fun j => hasT P (gr s j) x
def candF (ts : List Int) (P : List Post) (s : Bs) : Int × Int := if (valF ts P).1 ≠ 0 then valF ts P else if 400 < s.length then (10, -1) else (0, 0)
def candR (ts : List Int) (P : List Post) (s : Bs) : List Int := if (candF ts P s).1 ≠ 0 then [] else candK ts P s (s.length - 2)
theorem candK_succ (ts : List Int) (P : List Post) (s : Bs) (k : Nat) : candK ts P s (k + 1) = (candK ts P s k).filter fun x => hasT P (gr s k) x := by
  unfold candK
  rw [List.filter_filter]
  apply List.filter_congr
  intro x _
  rw [List.range_succ, List.all_append, Bool.and_comm]; simp
theorem candK_len (ts : List Int) (P : List Post) (s : Bs) (k : Nat) : (candK ts P s k).length ≤ ts.length := List.length_filter_le _ _
theorem candK_0 (ts : List Int) (P : List Post) (s : Bs) : candK ts P s 0 = ts := by simp [candK]
theorem valF_or (ts : List Int) (P : List Post) : valF ts P = (0, 0) ∨ (valF ts P).1 ≠ 0 := by
  unfold valF; split
  · exact .inr (by assumption)
  · exact firstF_or _ _ _
end Go.Proofs.Ytjdhadbnmghdgaa
