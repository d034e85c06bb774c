import Derived.Test.YtmbjnkgpcbpclaaGreatT13
set_option linter.all false
set_option maxRecDepth 100000
set_option maxHeartbeats 4000000
namespace Go.Proofs.YtmbjnkgpcbpclaaGreat
open Go Go.Vc Go.RowKit
def DZ (s p : Bs) : Bool := (List.range (s.length + 1 - p.length)).any fun i => decide ((s.drop i).take p.length = p)
def HQ : List AV → Option (Prop × AV)
  | [.d (.str s), .d (.str p)] => some (s.length ≤ 1000000000 ∧ p.length ≤ 1000000000, .d (.bool (DZ s p)))
  | _ => none
theorem Gb {s p : Bs} {i : Nat} (hi : i < s.length + 1 - p.length) (h : (s.drop i).take p.length = p) : DZ s p = true := List.any_eq_true.2 ⟨i, List.mem_range.2 hi, decide_eq_true h⟩
theorem II {s p : Bs} (h : ∀ j, j < s.length + 1 - p.length → (s.drop j).take p.length ≠ p) : DZ s p = false := by
  unfold DZ
  rw [Bool.eq_false_iff]; intro ha
  obtain ⟨i, hi, he⟩ := List.any_eq_true.1 ha
  exact h i (List.mem_range.1 hi) (of_decide_eq_true he)
theorem PB : A5 Tryz.prog 36 (Spec.pure HQ) := by
 refine A1 (Po.at_ 24) Tryz.func36 rfl rfl rfl ?_
 intro args p r hg hp
 unfold HQ at hg
 split at hg
 rename_i u p
 simp only [Option.some.injEq, Prod.mk.injEq] at hg
 obtain ⟨rfl, rfl⟩ := hg
 obtain ⟨hl1, hl2⟩ := hp
 have hT : (Po).X = T := rfl
 have hx0 := @Tryz.results36
 have hx := hx0
 refine ⟨by rfl, ?_⟩
 intro F W0 hnp hmk
 refine Aa fun N1 h1 => Ac ?_
 refine Az ?_
 refine Ad ?_
 refine Ab (h1 _ (Aa fun N2 h2 => ?_)); clear h1
 refine Aa fun N3 h3 => Ac ?_
 refine Ad ?_
 refine Ab (h3 _ (As ?_)); clear h3
 refine A3 (σ := Nat) (fun s => (fun i => i ≤ u.length + 1 - p.length ∧ ∀ j, j < i → (u.drop j).take p.length ≠ p) s)
  (fun s => (fun i => [(0, .d (.str u)), (1, .d (.str p)), (5, .d (.int .i64 (i : Nat)))]) s)
  (fun s => (fun i => []) s) (fun s => (fun i => u.length + 1 - i) s) hnp 0 ?_ [] ?_ ?_
 dsimp only
 exact ⟨by omega, fun j hj => by omega⟩
 dsimp only
 refine ⟨by rfl, ?_, ?_⟩
 refine Aj ?_
 exact Au
 refine Aj ?_
 exact Au
 rintro i hinv N4 h4
 dsimp only at hinv ⊢
 obtain ⟨i1, i2⟩ := hinv
 refine Aa fun N5 h5 => ?_
 refine Aa fun N6 h6 => Ac ?_
 refine Az ?_
 iterate 2 refine Ad ?_
 refine AU ?_
 refine Ao ?_
 refine Ad ?_
 refine AU ?_
 refine Ao ?_
 refine Ab (h6 _ (Ak (fun hb7 => ?_) (fun hb7 => ?_))); clear h6
 have hgr : List.take (((i : Int) + (p.length : Int)).toNat - i) (u.drop i) = (u.drop i).take p.length := by congr 1; omega
 refine An ?_
 try simp only [Ae]
 refine h5 _ (Aa fun N8 h8 => As ?_); clear h5
 refine Aa fun N9 h9 => Ac ?_
 iterate 4 refine Ad ?_
 refine AU ?_
 refine Ao ?_
 refine BZ ?_
 refine Ad ?_
 refine Ao ?_
 refine Ab ?_
 try simp only [hgr]
 refine h9 _ (Ak (fun hb10 => ?_) (fun hb10 => ?_)); clear h9
 have he : (u.drop i).take p.length = p := by have := hb10; first | (rw [hgr] at this; exact this) | exact this
 refine Aa fun N11 h11 => Ac ?_
 refine Ad ?_
 refine Ab (h11 _ (Am ?_)); clear h11
 try simp only [Ae]
 have hr := Gb (by omega) he
 rw [hr]
 refine Aw ?_
 exact Au
 have he : (u.drop i).take p.length ≠ p := by have := hb10; first | (rw [hgr] at this; exact this) | exact this
 refine An ?_
 try simp only [Ae]
 refine h8 _ (Ac ?_); clear h8
 refine Ad ?_
 refine Ao ?_
 refine Ad ?_
 refine Ab ?_
 refine h4 _ ⟨i + 1, ?_, ?_, [], ?_⟩
 dsimp only
 refine ⟨by omega, fun j hj => ?_⟩
 rcases Nat.lt_or_ge j i with h | h
 exact i2 j h
 obtain rfl : j = i := by omega
 exact he
 dsimp only
 omega
 dsimp only
 refine ⟨by rfl, ?_, ?_⟩
 refine Aj ?_
 exact Au
 refine Aj ?_
 exact Au
 refine AJ ?_
 simp only [Ae, Nat.reduceEqDiff, reduceIte, eq_self]
 refine h2 _ (Aa fun N12 h12 => Ac ?_); clear h2
 refine Ad ?_
 refine Ab (h12 _ (Am ?_)); clear h12
 try simp only [Ae]
 have hr : DZ u p = false := II (fun j hj => i2 j (by have := hb7; omega))
 rw [hr]
 refine Aw ?_
 exact Au
 cases hg
def Pm : Bq Tryz.prog := Po.add 36 (Spec.pure HQ) PB (by kernel_rfl)
def WV (P : List AR) (g : Bs) (x : Int) : Prop := ∃ t, (g, t) ∈ P ∧ x ∈ t
def U2 (P : List AR) (g : Bs) (x : Int) : Bool := Ce P g && decide (x ∈ (P.getD (Cq P g) ([], [])).2)
theorem Rj {P : List AR} (hs : Db P) {g : Bs} {t u : List Int} (h1 : (g, t) ∈ P) (h2 : (g, u) ∈ P) : t = u := by
  induction P with
  | nil => cases h1
  | cons p P ih =>
    obtain ⟨a1, a2⟩ := List.pairwise_cons.1 hs
    rcases List.mem_cons.1 h1 with e1 | h1' <;> rcases List.mem_cons.1 h2 with e2 | h2'
    · rw [← e1] at e2; exact (Prod.mk.inj e2).2.symm
    · have := a1 _ h2'; rw [← e1] at this; exact absurd rfl (P1 this)
    · have := a1 _ h1'; rw [← e2] at this; exact absurd rfl (P1 this)
    · exact ih a2 h1' h2'
theorem U3 {P : List AR} (hs : Db P) (g : Bs) (x : Int) : U2 P g x = true ↔ WV P g x := by
  unfold U2 WV
  rw [Bool.and_eq_true, decide_eq_true_eq]
  constructor
  · rintro ⟨h, hx⟩
    obtain ⟨t, ht⟩ := GS hs h
    rw [B5 ht] at hx
    exact ⟨t, AB ht, hx⟩
  · rintro ⟨t, h, hx⟩
    have hh : Ce P g = true := decide_eq_true (List.mem_map.2 ⟨_, h, rfl⟩)
    obtain ⟨u, hu⟩ := GS hs hh
    rw [B5 hu]
    exact ⟨hh, by rw [Rj hs (AB hu) h]; exact hx⟩
theorem Vg {P : List AR} (h : HG P) {g g' : Bs} {n x : Int} : WV (post P g n) g' x ↔ WV P g' x ∨ (g' = g ∧ x = n) := by
  unfold post
  split
  · rename_i hh
    obtain ⟨t, ht⟩ := GS h.sort hh
    rw [B5 ht]
    have hlt := (List.getElem?_eq_some_iff.1 ht).1
    constructor
    · rintro ⟨u, hu, hx⟩
      rcases List.mem_or_eq_of_mem_set hu with hu | hu
      · exact .inl ⟨u, hu, hx⟩
      · obtain ⟨rfl, rfl⟩ := Prod.mk.inj hu
        rcases JA.1 hx with rfl | hx
        · exact .inr ⟨rfl, rfl⟩
        · exact .inl ⟨t, AB ht, hx⟩
    · have hmem : (g, Fh t n) ∈ P.set (Cq P g) (g, Fh t n) := List.mem_of_getElem? (i := Cq P g) (by rw [List.getElem?_set]; simp [hlt])
      rintro (⟨u, hu, hx⟩ | ⟨rfl, rfl⟩)
      · by_cases hg : g' = g
        · subst hg
          have := Rj h.sort hu (AB ht); subst this
          exact ⟨_, hmem, JA.2 (.inr hx)⟩
        · obtain ⟨i, hi⟩ := List.getElem?_of_mem hu
          refine ⟨u, List.mem_of_getElem? (i := i) ?_, hx⟩
          rw [List.getElem?_set]
          split
          · rename_i hk; subst hk; rw [ht] at hi; exact absurd (Prod.mk.inj (Option.some.inj hi)).1.symm hg
          · exact hi
      · exact ⟨_, hmem, JA.2 (.inl rfl)⟩
  · have hd := List.take_append_drop (Cq P g) P
    constructor
    · rintro ⟨u, hu, hx⟩
      rcases List.mem_append.1 hu with hu | hu
      · exact .inl ⟨u, List.mem_of_mem_take hu, hx⟩
      · rcases List.mem_cons.1 hu with hu | hu
        · obtain ⟨rfl, rfl⟩ := Prod.mk.inj hu
          exact .inr ⟨rfl, by simpa using hx⟩
        · exact .inl ⟨u, List.mem_of_mem_drop hu, hx⟩
    · rintro (⟨u, hu, hx⟩ | ⟨rfl, rfl⟩)
      · refine ⟨u, ?_, hx⟩
        rw [← hd] at hu
        rcases List.mem_append.1 hu with hu | hu
        · exact List.mem_append.2 (.inl hu)
        · exact List.mem_append.2 (.inr (List.mem_cons_of_mem _ hu))
      · exact ⟨[x], List.mem_append.2 (.inr (by simp)), by simp⟩
theorem O3 {P : List AR} (h : HG P) {n x : Int} {s g : Bs} : ∀ {k : Nat}, WV (Be P n s k) g x ↔ WV P g x ∨ (x = n ∧ ∃ j, j < k ∧ gr s j = g)
  | 0 => by simp [Be]
  | k + 1 => by
    simp only [Be]
    rw [Vg (FK h k), O3 h (k := k)]
    constructor
    · rintro ((h | ⟨h1, j, h2, h3⟩) | ⟨h1, h2⟩)
      · exact .inl h
      · exact .inr ⟨h1, j, by omega, h3⟩
      · exact .inr ⟨h2, k, by omega, h1.symm⟩
    · rintro (h | ⟨h1, j, h2, h3⟩)
      · exact .inl (.inl h)
      · by_cases hj : j = k
        · subst hj; exact .inr ⟨h3.symm, h1⟩
        · exact .inl (.inr ⟨h1, j, by omega, h3⟩)
theorem Kt {ts : List Bs} {g : Bs} {x : Int} : ∀ {k : Nat}, WV (C2 ts k) g x ↔ ∃ i : Nat, i < k ∧ x = i ∧ ∃ j, j < (ts.getD i []).length - 2 ∧ gr (ts.getD i []) j = g
  | 0 => by simp [C2, WV]
  | k + 1 => by
    simp only [C2, KQ]
    rw [O3 (Fg ts k), Kt (k := k)]
    constructor
    · rintro (⟨i, h1, h2⟩ | ⟨h1, j, h2, h3⟩)
      · exact ⟨i, by omega, h2⟩
      · exact ⟨k, by omega, h1, j, h2, h3⟩
    · rintro ⟨i, h1, h2, h3⟩
      by_cases hi : i = k
      · subst hi; exact .inr ⟨h2, h3⟩
      · exact .inl ⟨i, by omega, h2, h3⟩
def Ze (P : List AR) : Prop := ∀ p ∈ P, p.2 ≠ []
theorem Y3 {l : List Int} {n : Int} : Fh l n ≠ [] := fun h => by have := (JA (l := l) (n := n) (x := n)).2 (.inl rfl); rw [h] at this; cases this
theorem OG {Q : AR → Prop} {P : List AR} {g : Bs} {n : Int} (h : ∀ p ∈ P, Q p) (h1 : Q (g, [n])) (h2 : ∀ t, Q (g, Fh t n)) : ∀ p ∈ post P g n, Q p := by
  intro p hp
  unfold post at hp
  split at hp
  · rcases List.mem_or_eq_of_mem_set hp with hp | rfl
    · exact h p hp
    · exact h2 _
  · rcases List.mem_append.1 hp with hp | hp
    · exact h p (List.mem_of_mem_take hp)
    · rcases List.mem_cons.1 hp with rfl | hp
      · exact h1
      · exact h p (List.mem_of_mem_drop hp)
theorem Xt {P : List AR} {g : Bs} {n : Int} (h : Ze P) : Ze (post P g n) := OG h (by simp) (fun t => Y3)
theorem QW {P : List AR} {n : Int} {s : Bs} (h : Ze P) : ∀ k, Ze (Be P n s k)
  | 0 => h
  | k + 1 => Xt (QW h k)
theorem Rf (ts : List Bs) : ∀ k, Ze (C2 ts k)
  | 0 => fun p h => by cases h
  | k + 1 => QW (Rf ts k) _
def Zy (P : List AR) : Prop := ∀ p ∈ P, p.1.length = 3
theorem QV {P : List AR} {n : Int} {s : Bs} (h : Zy P) : ∀ {k}, k ≤ s.length - 2 → Zy (Be P n s k)
  | 0, _ => h
  | k + 1, hk => OG (QV h (by omega)) (U0 (by omega)) (fun t => U0 (s := s) (i := k) (by omega))
theorem Re (ts : List Bs) : ∀ k, Zy (C2 ts k)
  | 0 => fun p h => by cases h
  | k + 1 => QV (Re ts k) (Nat.le_refl _)
structure Nu (ts : List Int) (P : List AR) : Prop where
  tlen : ts.length ≤ 20
  trng : ∀ x ∈ ts, 0 ≤ x ∧ x < 20
  tsort : ts.Pairwise (· < ·)
  good : HG P
  g3 : Zy P
  ne : Ze P
  sub : ∀ p ∈ P, ∀ x ∈ p.2, x ∈ ts
theorem Dm {f : Nat → Int} {g : Nat → Int} : ∀ {n}, (Co f g n).1 = 0 → ∀ j, j < n → f j = 0
  | 0, _, j, hj => by omega
  | n + 1, h, j, hj => by
    unfold Co at h
    split at h
    · rename_i h1; exact absurd h h1
    · rename_i h1
      split at h
      · rename_i h2; exact absurd h h2
      · rename_i h2
        by_cases e : j = n
        · subst e; simpa using h2
        · exact Dm (n := n) (by simpa using h1) j (by omega)
theorem XZ {l : List Int} (h : ∀ j, j < l.length → 0 < j → l.getD (j - 1) 0 < l.getD j 0) : l.Pairwise (· < ·) := by
  induction l with
  | nil => simp
  | cons a l ih =>
    have ih := ih (fun j hj h0 => by
      have := h (j + 1) (by simp; omega) (by omega)
      obtain ⟨j, rfl⟩ : ∃ i, j = i + 1 := ⟨j - 1, by omega⟩
      simpa using this)
    refine List.pairwise_cons.2 ⟨fun b hb => ?_, ih⟩
    cases l with
    | nil => cases hb
    | cons c l =>
      have h1 := h 1 (by simp) (by omega)
      simp at h1
      rcases List.mem_cons.1 hb with rfl | hb
      · exact h1
      · have := (List.pairwise_cons.1 ih).1 b hb; omega
theorem VU {l : List Int} (h : l.Pairwise (· < ·)) : ∀ j, j < l.length → 0 < j → l.getD (j - 1) 0 < l.getD j 0 := by
  intro j hj h0
  obtain ⟨x, hx⟩ := BA (l := l) (i := j) hj
  obtain ⟨y, hy⟩ := BA (l := l) (i := j - 1) (by omega)
  rw [B5 hx, B5 hy]
  obtain ⟨h1, rfl⟩ := List.getElem?_eq_some_iff.1 hx
  obtain ⟨h2, rfl⟩ := List.getElem?_eq_some_iff.1 hy
  exact List.pairwise_iff_getElem.1 h (j - 1) j h2 h1 (by omega)
theorem Oh {l : List Int} : F1 l = true ↔ l.Pairwise (· < ·) := by
  constructor
  · intro h
    refine XZ fun j hj h0 => ?_
    unfold F1 at h
    have := List.all_eq_true.1 h j (List.mem_range.2 hj)
    simp only [Bool.or_eq_true, beq_iff_eq, decide_eq_true_eq] at this
    omega
  · intro h; exact Kl (VU h)
theorem VV : ∀ {P : List AR}, (∀ j, j < P.length → 0 < j → D3 (P.getD (j - 1) ([], [])).1 (P.getD j ([], [])).1 = true) → Db P
  | [], _ => List.Pairwise.nil
  | a :: P, h => by
    have ih := VV (P := P) (fun j hj h0 => by
      have := h (j + 1) (by simp; omega) (by omega)
      obtain ⟨j, rfl⟩ : ∃ i, j = i + 1 := ⟨j - 1, by omega⟩
      simpa using this)
    refine List.pairwise_cons.2 ⟨fun b hb => ?_, ih⟩
    cases P with
    | nil => cases hb
    | cons c P =>
      have h1 := h 1 (by simp) (by omega)
      simp at h1
      rcases List.mem_cons.1 hb with rfl | hb
      · exact h1
      · exact Ff h1 ((List.pairwise_cons.1 ih).1 b hb)
theorem X7 {P : List AR} (h : Db P) : ∀ j, j < P.length → 0 < j → D3 (P.getD (j - 1) ([], [])).1 (P.getD j ([], [])).1 = true := by
  intro j hj h0
  obtain ⟨x, hx⟩ := BA (l := P) (i := j) hj
  obtain ⟨y, hy⟩ := BA (l := P) (i := j - 1) (by omega)
  rw [B5 hx, B5 hy]
  obtain ⟨h1, rfl⟩ := List.getElem?_eq_some_iff.1 hx
  obtain ⟨h2, rfl⟩ := List.getElem?_eq_some_iff.1 hy
  exact List.pairwise_iff_getElem.1 h (j - 1) j h2 h1 (by omega)
theorem QA {ts : List Int} {P : List AR} (h : (Dj ts P).1 = 0) : Nu ts P := by
  unfold Dj at h
  split at h
  · rename_i h1; exact absurd h h1
  · rename_i h1
    simp only [ne_eq, Decidable.not_not] at h1
    have hp := Dm h
    unfold KN at h1
    split at h1
    · cases h1
    · rename_i hlen
      have ht := Dm h1
      have hpf : ∀ j, j < P.length → (P.getD j ([], [])).1.length = 3 ∧ ¬((0 < j ∧ D3 (P.getD (j - 1) ([], [])).1 (P.getD j ([], [])).1 = false) ∨ (P.getD j ([], [])).2 = [] ∨ F1 (P.getD j ([], [])).2 = false) ∧ ¬ (P.getD j ([], [])).2.any (MN ts) = true := by
        intro j hj
        have := hp j hj
        unfold JB at this
        split at this
        · cases this
        · split at this
          · cases this
          · split at this
            · cases this
            · rename_i a b c; exact ⟨by simpa using a, b, c⟩
      have hel : ∀ p ∈ P, ∃ j, j < P.length ∧ P.getD j ([], []) = p := fun p hp => by
        obtain ⟨i, hi⟩ := List.getElem?_of_mem hp
        exact ⟨i, (List.getElem?_eq_some_iff.1 hi).1, B5 hi⟩
      refine ⟨by omega, fun x hx => ?_, XZ fun j hj h0 => ?_, ⟨VV fun j hj h0 => ?_, fun p hp => ?_⟩, fun p hp => ?_, fun p hp => ?_, fun p hp x hx => ?_⟩
      · obtain ⟨i, hi⟩ := List.getElem?_of_mem hx
        have := ht i (List.getElem?_eq_some_iff.1 hi).1
        unfold tf at this
        rw [B5 hi] at this
        split at this
        · cases this
        · omega
      · have := ht j hj
        unfold tf at this
        split at this
        · cases this
        · split at this
          · cases this
          · omega
      · have := (hpf j hj).2.1
        cases hb : D3 (P.getD (j - 1) ([], [])).1 (P.getD j ([], [])).1 with
        | true => rfl
        | false => exact absurd (.inl ⟨h0, hb⟩) this
      · obtain ⟨j, hj, rfl⟩ := hel p hp
        have := (hpf j hj).2.1
        rw [← Oh]
        cases hb : F1 (P.getD j ([], [])).2 with
        | true => rfl
        | false => exact absurd (.inr (.inr hb)) this
      · obtain ⟨j, hj, rfl⟩ := hel p hp; exact (hpf j hj).1
      · obtain ⟨j, hj, rfl⟩ := hel p hp; exact fun e => (hpf j hj).2.1 (.inr (.inl e))
      · obtain ⟨j, hj, rfl⟩ := hel p hp
        by_cases hm : x ∈ ts
        · exact hm
        · exact absurd (List.any_eq_true.2 ⟨x, hx, by simp [MN, hm]⟩) (hpf j hj).2.2
theorem QB {ts : List Int} {P : List AR} (h : Nu ts P) : Dj ts P = (0, 0) := by
  have h1 : KN ts = (0, 0) := by
    unfold KN
    rw [if_neg (by have := h.tlen; omega)]
    refine Cv fun j hj => ?_
    obtain ⟨x, hx⟩ := BA (l := ts) (i := j) hj
    have := h.trng x (AB hx)
    unfold tf
    rw [if_neg (by rw [B5 hx]; omega), if_neg]
    rintro ⟨h0, h2⟩
    have := VU h.tsort j hj h0
    omega
  unfold Dj
  rw [h1, if_neg (by simp)]
  refine Cv fun j hj => ?_
  obtain ⟨p, hp⟩ := BA (l := P) (i := j) hj
  have hm := AB hp
  unfold JB
  rw [B5 hp, if_neg (by rw [h.g3 p hm]; simp), if_neg, if_neg]
  · intro ha
    obtain ⟨x, hx, hb⟩ := List.any_eq_true.1 ha
    simp [MN, h.sub p hm x hx] at hb
  · rintro (⟨h0, hb⟩ | hb | hb)
    · have := X7 h.good.sort j hj h0
      rw [B5 hp] at this; rw [this] at hb; cases hb
    · exact h.ne p hm hb
    · rw [Oh.2 (h.good.rise p hm)] at hb; cases hb
theorem GZ {ts : List Bs} (hn : ts.length ≤ 20) : Nu (Cp ts.length) (C2 ts ts.length) :=
  ⟨by rw [Bn]; exact hn, fun x hx => by have := DT.1 hx; omega, L2 _, Fg _ _, Re _ _, Rf _ _, fun p hp x hx => by
    obtain ⟨i, h1, h2, _⟩ := Kt.1 (show WV (C2 ts ts.length) p.1 x from ⟨p.2, hp, hx⟩)
    rw [DT]; omega⟩
theorem few : ∀ {l : List Nat} {a b : Nat}, l.Pairwise (· < ·) → (∀ x ∈ l, a ≤ x ∧ x < b) → l.length ≤ b - a
  | [], _, _, _, _ => Nat.zero_le _
  | x :: l, a, b, hs, hb => by
    obtain ⟨h1, h2⟩ := List.pairwise_cons.1 hs
    have := few (l := l) (a := x + 1) (b := b) h2 (fun y hy => ⟨h1 y hy, (hb y (by simp [hy])).2⟩)
    have := hb x (by simp)
    simp only [List.length_cons]; omega
def Uz : Bs → Nat
  | [a, b, c] => a.toNat * 65536 + b.toNat * 256 + c.toNat
  | _ => 0
theorem WU {a b : Bs} (ha : a.length = 3) (hb : b.length = 3) (h : D3 a b = true) : Uz a < Uz b := by
  match a, b, ha, hb with
  | [a1, a2, a3], [b1, b2, b3], _, _ =>
    simp only [D3, Op.bytesLess, Bool.or_eq_true, Bool.and_eq_true, decide_eq_true_eq, beq_iff_eq, UInt8.lt_iff_toNat_lt] at h
    have := a2.toNat_lt; have := a3.toNat_lt; have := b2.toNat_lt; have := b3.toNat_lt
    simp only [Uz]
    rcases h with h | ⟨rfl, h | ⟨rfl, h⟩⟩
    · omega
    · omega
    · simp at h; omega
theorem Y1 {P : List AR} (h : Zy P) (hs : Db P) : P.length ≤ 16777216 := by
  have h2 : (P.map fun p => Uz p.1).Pairwise (· < ·) := by
    rw [List.pairwise_map]
    exact List.Pairwise.imp_of_mem (fun ha hb hab => WU (h _ ha) (h _ hb) hab) hs
  have := few (a := 0) (b := 16777216) h2 (fun x hx => by
    obtain ⟨p, hp, rfl⟩ := List.mem_map.1 hx
    have h3 := h p hp
    obtain ⟨g, t⟩ := p
    match g, h3 with
    | [a, b, c], _ => have := a.toNat_lt; have := b.toNat_lt; have := c.toNat_lt; simp only [Uz]; omega)
  simpa using this
theorem VW {l : List Int} (hs : l.Pairwise (· < ·)) (h : ∀ x ∈ l, 0 ≤ x ∧ x < 20) : l.length ≤ 20 := by
  have h2 : (l.map Int.toNat).Pairwise (· < ·) := by
    rw [List.pairwise_map]
    exact List.Pairwise.imp_of_mem (fun ha hb hab => by have := h _ ha; have := h _ hb; omega) hs
  have := few (a := 0) (b := 20) h2 (fun x hx => by
    obtain ⟨y, hy, rfl⟩ := List.mem_map.1 hx
    have := h y hy; omega)
  simpa using this
theorem Nu.plen {ts : List Int} {P : List AR} (h : Nu ts P) : P.length ≤ 16777216 := Y1 h.g3 h.good.sort
theorem Nu.pmax {ts : List Int} {P : List AR} (h : Nu ts P) : ∀ p ∈ P, p.2.length ≤ 20 := fun p hp => VW (h.good.rise p hp) (fun x hx => h.trng x (h.sub p hp x hx))
def DQ (ts : List Int) (P : List AR) (s : Bs) (k : Nat) : List Int := ts.filter fun x => (List.range k).all fun j => U2 P (gr s j) x
def Eh (ts : List Int) (P : List AR) (s : Bs) : Int × Int := if (Dj ts P).1 ≠ 0 then Dj ts P else if 400 < s.length then (10, -1) else (0, 0)
def ED (ts : List Int) (P : List AR) (s : Bs) : List Int := if (Eh ts P s).1 ≠ 0 then [] else DQ ts P s (s.length - 2)
theorem P4 (ts : List Int) (P : List AR) (s : Bs) (k : Nat) : DQ ts P s (k + 1) = (DQ ts P s k).filter fun x => U2 P (gr s k) x := by
  unfold DQ
  rw [List.filter_filter]
  apply List.filter_congr
  intro x _
  rw [List.range_succ, List.all_append, Bool.and_comm]; simp
theorem I9 (ts : List Int) (P : List AR) (s : Bs) (k : Nat) : (DQ ts P s k).length ≤ ts.length := List.length_filter_le _ _
theorem QY (ts : List Int) (P : List AR) (s : Bs) : DQ ts P s 0 = ts := by simp [DQ]
theorem RG (ts : List Int) (P : List AR) : Dj ts P = (0, 0) ∨ (Dj ts P).1 ≠ 0 := by
  unfold Dj; split
  · exact .inr (by assumption)
  · exact Lx _ _ _
