import Derived.Test.YtmbjnkgpcbpclaaGreatT56
set_option linter.all false
set_option maxRecDepth 100000
set_option maxHeartbeats 4000000
namespace Go.Proofs.YtmbjnkgpcbpclaaGreat
open Go Go.Vc Go.RowKit
def Hs (q : List Nd) (i : Nat) : Nat := OZ (F3 q i) (ar (q.getD i default).kd)
theorem Na {q : List Nd} : ∀ {n i : Nat}, i < n → (F3 q n).getD i 0 = Hs q i
  | n + 1, i, h => by
    by_cases hi : i < n
    · rw [RF hi]; exact Na hi
    · obtain rfl : i = n := by omega
      show (F3 q i ++ [_]).getD i 0 = _
      rw [List.getD_eq_getElem?_getD, List.getElem?_append_right (by rw [E9]; exact Nat.le_refl _), E9, Nat.sub_self]; rfl
def okQ (q : List Nd) : Prop := 1 ≤ q.length ∧ q.length ≤ 40 ∧ ∀ j, j < q.length → He q j = 0
theorem LD {q : List Nd} (h : Q8 q = (0, 0)) : okQ q ∧ (rts q q.length).length = 1 := by
  unfold Q8 at h
  split at h
  · cases h
  · rename_i h1
    split at h
    · rename_i h2; rw [h] at h2; exact absurd rfl h2
    · rename_i h2
      have h0 := fun j hj => Dm (f := qC q) (g := iI) (n := q.length) (by omega) j hj
      refine ⟨⟨by omega, by omega, fun j hj => ?_⟩, ?_⟩
      · rw [JC (by omega) fun k hk => h0 k (by omega)]; exact h0 j hj
      · split at h
        · cases h
        · rename_i h3; omega
theorem YP {q : List Nd} (h : okQ q) {i : Nat} (hi : i < q.length) : 1 ≤ Hs q i ∧ Hs q i ≤ i + 1 := by
  refine ⟨?_, ?_⟩
  · unfold Hs
    rw [Q5 _ (by rcases Lr (q.getD i default).kd with ⟨_, h⟩ | ⟨_, _, h⟩ | ⟨_, h⟩ <;> omega)]
    exact MI _ _
  · have := Wb (q := q) (i := i + 1) (by omega) (fun j hj => h.2.2 j (by omega)) i (by omega)
    rwa [Na (by omega)] at this
theorem Xo {q : List Nd} (h : okQ q) {i : Nat} (hi : i < q.length) {x : Nd} (hx : q.getD i default = x) : 1 ≤ x.kd ∧ x.kd ≤ 16 ∧ 0 ≤ x.nm ∧ x.nm ≤ Kv x.kd ∧
    (ar x.kd = 0 → x.lf = 0 ∧ x.rt = 0 ∧ Hs q i = 1) ∧ (ar x.kd = 1 → 1 ≤ i ∧ x.lf = ((i - 1 : Nat) : Int) ∧ x.rt = 0 ∧ Hs q i = 1 + Hs q (i - 1)) ∧
    (ar x.kd = 2 → Hs q (i - 1) + 1 ≤ i ∧ x.lf = ((i - 1 - Hs q (i - 1) : Nat) : Int) ∧ x.rt = ((i - 1 : Nat) : Int) ∧ Hs q i = 1 + Hs q (i - 1) + Hs q (i - 1 - Hs q (i - 1))) := by
  have hr := h.2.2 i hi
  have hl := E9 q i
  have hb := Qs hr
  rw [hx] at hb
  have hg := MZ hb
  rw [hl] at hg
  unfold He at hr
  rw [hx] at hr
  split at hr
  · cases hr
  rename_i c1
  split at hr
  · cases hr
  rename_i c2
  split at hr
  · cases hr
  split at hr
  · rename_i c3 c4
    simp only [Bool.and_eq_false_iff, decide_eq_false_iff_not, not_or, Decidable.not_not] at c1 c2
    have e1 : 1 ≤ i → (F3 q i).getD (i - 1) 0 = Hs q (i - 1) := fun h => Na (by omega)
    obtain ⟨c4, c5⟩ := c4
    unfold KL at c4
    unfold Nk at c5
    rw [hl] at c4 c5
    have eI : Hs q i = OZ (F3 q i) (ar x.kd) := by unfold Hs; rw [hx]
    refine ⟨c1.1, c1.2, c2.1, c2.2, fun ha => ?_, fun ha => ?_, fun ha => ?_⟩
    · rw [ha] at c4 c5 eI
      exact ⟨by simpa using c4, by simpa using c5, eI⟩
    · rw [ha] at c4 c5 eI hg
      have h1 := hg.1 (by omega)
      have e2 := e1 h1
      refine ⟨h1, ?_, by simpa using c5, ?_⟩
      · rw [c4, if_pos rfl]; omega
      · rw [eI]; show 1 + (F3 q i).getD ((F3 q i).length - 1) 0 = _; rw [hl, e2]
    · rw [ha] at c4 c5 eI hg
      have h1 := hg.1 (by omega)
      have h2 := hg.2 (by omega)
      have e2 := e1 h1
      rw [e2] at h2 c4
      refine ⟨by omega, ?_, ?_, ?_⟩
      · rw [c4, if_neg (by omega), if_pos rfl]; omega
      · rw [c5, if_pos rfl]; omega
      · rw [eI]
        show 1 + (F3 q i).getD ((F3 q i).length - 1) 0 + (F3 q i).getD ((F3 q i).length - (1 + (F3 q i).getD ((F3 q i).length - 1) 0)) 0 = _
        rw [hl, e2, Na (q := q) (n := i) (i := i - (1 + Hs q (i - 1))) (by omega)]
        congr 2; omega
  · cases hr
theorem Et {q : List Sn} (h : C4 q = (0, 0)) : Q8 (Ef q) = (0, 0) ∧ 1 ≤ q.length ∧ q.length ≤ 40 ∧ ∀ j, j < q.length → Nn q j = 0 := by
  unfold C4 at h
  split at h
  · cases h
  · rename_i h1
    split at h
    · rename_i h2; rw [h] at h2; exact absurd rfl h2
    · rename_i h2
      have h0 := fun j hj => Dm (f := Nn q) (g := iI) (n := q.length) (by omega) j hj
      split at h
      · cases h
      · rename_i h3
        refine ⟨?_, by omega, by omega, h0⟩
        unfold Q8
        rw [Dz, if_neg h1, Cv fun j hj => V8 hj (h0 j hj), if_neg (by simp)]
        exact if_neg h3
theorem LQ {q : List Sn} (h : C4 q ≠ (0, 0)) : (C4 q).1 ≠ 0 := by
  intro h0
  unfold C4 at h h0
  split at h
  · rename_i h1; rw [if_pos h1] at h0; exact absurd h0 (by decide)
  · rename_i h1
    rw [if_neg h1] at h0
    split at h
    · rename_i h2; rw [if_pos h2] at h0; exact h2 h0
    · rename_i h2
      rw [if_neg h2] at h0
      split at h
      · rename_i h3; rw [if_pos h3] at h0; exact absurd h0 (by decide)
      · exact h rfl
theorem Fw {q : List Sn} (h : C4 q = (0, 0)) {i : Nat} (hi : i < q.length) {x : Sn} (hx : q.getD i default = x) : (1 ≤ x.kd ∧ x.kd ≤ 4) ∧ (x.kd = 1 → Gr x.tx = true) ∧ (x.kd ≠ 1 → x.tx = []) ∧ (x.kd = 1 → x.lf = 0 ∧ x.rt = 0 ∧ Hs (Ef q) i = 1) ∧
    (x.kd = 4 → 1 ≤ i ∧ x.lf = ((i - 1 : Nat) : Int) ∧ x.rt = 0 ∧ Hs (Ef q) i = 1 + Hs (Ef q) (i - 1)) ∧
    (x.kd = 2 ∨ x.kd = 3 → Hs (Ef q) (i - 1) + 1 ≤ i ∧ x.lf = ((i - 1 - Hs (Ef q) (i - 1) : Nat) : Int) ∧ x.rt = ((i - 1 : Nat) : Int) ∧ Hs (Ef q) i = 1 + Hs (Ef q) (i - 1) + Hs (Ef q) (i - 1 - Hs (Ef q) (i - 1))) := by
  obtain ⟨h1, _, _, h4⟩ := Et h
  have hq := (LD h1).1
  have hm : (Ef q).getD i default = nM x := by rw [Rm hi, hx]
  obtain ⟨_, _, _, _, o5, o6, o7⟩ := Xo hq (by rw [Dz]; exact hi) hm
  have hs := h4 i hi
  rw [Qq hi, hx] at hs
  obtain ⟨_, s2, s3, s4⟩ := RC hs
  have ha : ar (nM x).kd = CE x.kd := NB _
  rw [ha] at o5 o6 o7
  refine ⟨s2, s3, s4, fun hk => o5 (by rw [hk]; rfl), fun hk => o6 (by rw [hk]; rfl), fun hk => o7 (by rcases hk with hk | hk <;> rw [hk] <;> rfl)⟩
def SX (u : Bs) (n : Sn) (l : List Bool) : Bool :=
  if n.kd = 1 then DZ u n.tx else if n.kd = 2 then l.getD n.lf.toNat false && l.getD n.rt.toNat false
  else if n.kd = 3 then l.getD n.lf.toNat false || l.getD n.rt.toNat false else !(l.getD n.lf.toNat false)
def Kw (u : Bs) (q : List Sn) : Nat → List Bool
  | 0 => []
  | i + 1 => Kw u q i ++ [SX u (q.getD i default) (Kw u q i)]
theorem DV (u : Bs) (q : List Sn) : ∀ i, (Kw u q i).length = i
  | 0 => rfl
  | i + 1 => by simp [Kw, DV u q i]
def Pk (u : Bs) (q : List Sn) : Bool := (Kw u q q.length).getD (q.length - 1) false
def TL : List AV → Option (Prop × AV)
  | [.d (.str u), .agg [.d (.sl xs)]] => some (xs = rows Ec (C8 xs) ∧ C4 (C8 xs) = (0, 0) ∧ u.length ≤ 1000000000, .d (.bool (Pk u (C8 xs))))
  | _ => none
theorem Ie {b : Bs} (h : Gr b = true) : 1 ≤ b.length ∧ b.length ≤ 80 := by
  unfold Gr at h
  simp only [Bool.and_eq_true, decide_eq_true_eq] at h
  exact h.1
theorem MK {q : List Sn} (h : C4 q = (0, 0)) {i : Nat} (hi : i < q.length) {x : Sn} (hx : q.getD i default = x) (hk : x.kd ≠ 1) : 0 ≤ x.lf ∧ x.lf < i ∧ 0 ≤ x.rt ∧ x.rt < i := by
  obtain ⟨h1, _, _, _, h5, h6⟩ := Fw h hi hx
  by_cases h4 : x.kd = 4
  · obtain ⟨a, b, c, _⟩ := h5 h4; omega
  · obtain ⟨a, b, c, _⟩ := h6 (by omega); omega
theorem XW {u : Bs} {a c e : Int} {b : Bs} {l : List Bool} (h : a = 1) : SX u ⟨a, b, c, e⟩ l = DZ u b := if_pos h
theorem Od {l : List Bool} {j : Int} {v : Bool} (h : l[j.toNat]? = some v) : l.getD j.toNat false = v := by rw [List.getD_eq_getElem?_getD, h]; rfl
theorem Rn {u : Bs} {a c e : Int} {b : Bs} {l : List Bool} {v w : Bool} (h : a = 2) (h1 : l[c.toNat]? = some v) (h2 : l[e.toNat]? = some w) : SX u ⟨a, b, c, e⟩ l = (v && w) := by
  unfold SX; dsimp only; rw [if_neg (by omega), if_pos h, Od h1, Od h2]
theorem Ro {u : Bs} {a c e : Int} {b : Bs} {l : List Bool} {v w : Bool} (h : a = 3) (h1 : l[c.toNat]? = some v) (h2 : l[e.toNat]? = some w) : SX u ⟨a, b, c, e⟩ l = (v || w) := by
  unfold SX; dsimp only; rw [if_neg (by omega), if_neg (by omega), if_pos h, Od h1, Od h2]
theorem XX {u : Bs} {a c e : Int} {b : Bs} {l : List Bool} {v : Bool} (h1' : a ≠ 1) (h2' : a ≠ 2) (h3' : a ≠ 3) (h1 : l[c.toNat]? = some v) : SX u ⟨a, b, c, e⟩ l = !v := by
  unfold SX; dsimp only; rw [if_neg h1', if_neg h2', if_neg h3', Od h1]
theorem Kx {u : Bs} {q : List Sn} {i : Nat} {x : Sn} (h : q.getD i default = x) : Kw u q (i + 1) = Kw u q i ++ [SX u x (Kw u q i)] := by rw [← h]; rfl
theorem OU (l : List Bool) (v : Bool) : rows eB l ++ [[.bool v]] = rows eB (l ++ [v]) := by simp [rows, eB]
theorem Eo {p : Prop} (h : p := by (first | ((repeat' apply And.intro) <;> first | rfl | omega) | exact AQ)) : p := h
theorem Cj {p : Prop} (h : p := by (repeat' apply And.intro) <;> (first | (first | rfl | trivial | exact Or.inl rfl) | exact Au)) : p := h
theorem Tc : A5 Tryz.prog 40 (Spec.pure TL) := by
 refine A1 (J4.at_ 73) Tryz.func40 rfl rfl rfl ?_
 intro args p r hg hp
 unfold TL at hg
 split at hg
 rename_i u xs
 simp only [Option.some.injEq, Prod.mk.injEq] at hg
 obtain ⟨rfl, rfl⟩ := hg
 obtain ⟨he, hv, hul⟩ := hp
 generalize C8 xs = q at *
 subst he
 obtain ⟨_, h1, h40, _⟩ := Et hv
 have hT : (J4).X = T := rfl
 have hx0 := And.intro @BL (And.intro @AL (And.intro @Dd (And.intro @Ci (And.intro @Ch @Tryz.results40))))
 have hx := hx0
 refine ⟨by rfl, ?_⟩
 intro F W0 hnp hmk
 refine Aa fun N1 h1 => Ac ?_
 refine Az ?_
 refine Fz (hq := Ap) ?_
 refine Ad (hq := Ap) ?_
 refine Ab (h1 _ (Aa fun N2 h2 => Ac ?_)); clear h1
 refine Ad (hq := Ap) ?_
 refine Ab (h2 _ (Aa fun N3 h3 => ?_)); clear h2
 refine Aa fun N4 h4 => Ac ?_
 refine Ad (hq := Ap) ?_
 refine Ab (h4 _ (As ?_)); clear h4
 refine A3 (σ := Nat) (fun s => (fun i => i ≤ q.length) s)
  (fun s => (fun i => [(0, .d (.str u)), (3, .ptr 0 0 0), (5, .sl 1 0 i), (6, .d (.int .i64 (i : Nat)))]) s)
  (fun s => (fun i => [some (.one 25 [.d (.sl (rows Ec q))]), some (.vec 4 1 (rows eB (Kw u q i)))]) s) (fun s => (fun i => q.length - i) s) hnp 0 ?_ [some 0, none] ?_ ?_
 dsimp only
 omega
 dsimp only
 refine ⟨by rfl, ?_, ?_⟩
 refine Aj ?_
 exact Au
 refine Aj ?_
 exact Au
 rintro i hinv N5 h5
 dsimp only at hinv ⊢
 have i1 := hinv
 refine Aa fun N6 h6 => ?_
 refine Aa fun N7 h7 => Ac ?_
 refine Az ?_
 refine Ad (hq := Ap) ?_
 refine Ar (hq := Ap) ?_
 refine Aq (hq := Ap) ?_
 refine AU (hq := Ap) ?_
 refine Ao (hq := Ap) ?_
 refine Ab (h7 _ (Ak (fun hb8 => ?_) (fun hb8 => ?_))); clear h7
 have hiq : i < q.length := by have := hb8; omega
 obtain ⟨x, hxe⟩ := BA (l := q) (i := i) hiq
 have hxd : q.getD i default = x := by rw [List.getD_eq_getElem?_getD, hxe]; rfl
 have hst := Kx (u := u) hxd
 have hml := DV u q i
 have hok := Fw hv hiq hxd
 have hat := MK hv hiq hxd
 obtain ⟨a, b, c, e⟩ := x
 dsimp only at hok hat
 refine An ?_
 try simp only [Ae]
 refine h6 _ (Aa fun N9 h9 => As ?_); clear h6
 have hx := And.intro @hxe (And.intro @Ec.eq_1 hx0)
 refine Aa fun N10 h10 => Ac ?_
 refine Ar (hq := AN) ?_
 refine Aq (hq := AN) ?_
 refine Ad (hq := AN) ?_
 refine Ar (hq := AN) ?_
 refine Aq (hq := AN) ?_
 refine Bj (hq := AN) ?_
 refine A4 (hq := AN) ?_
 have hx := hx0
 refine Ab (h10 _ (Aa fun N11 h11 => Ac ?_)); clear h10
 refine Ad (hq := Ap) ?_
 refine Ab (h11 _ ?_); clear h11
 refine F0 (σ := Bool) (fun s => (fun v => v = SX u ⟨a, b, c, e⟩ (Kw u q i)) s)
  (fun s => (fun v => [(0, .d (.str u)), (3, .ptr 0 0 0), (5, .sl 1 0 i), (6, .d (.int .i64 (i : Nat))), (7, .ptr 2 0 0), (8, .d (.bool v))]) s)
  (fun s => (fun v => [some (.one 25 [.d (.sl (rows Ec q))]), some (.vec 4 1 (rows eB (Kw u q i))), some (.one 55 [.d (.int .i64 a), .d (.str b), .d (.int .i64 c), .d (.int .i64 e)])]) s) hnp ?_ ?_
 rintro v hinv
 dsimp only at hinv ⊢
 have hvr := hinv
 refine Ac ?_
 refine Az ?_
 iterate 2 refine Ad (hq := Ap) ?_
 refine Di (hq := Ap) ?_
 refine Bf (hq := Ap) ?_
 refine Ad (hq := Ap) ?_
 refine Ab (h9 _ (Ac ?_)); clear h9
 refine Ad (hq := Ap) ?_
 refine Ao (hq := Ap) ?_
 refine Ad (hq := Ap) ?_
 refine Ab ?_
 refine h5 _ ⟨i + 1, ?_, ?_, [some 0, some 4], ?_⟩
 dsimp only
 omega
 dsimp only
 omega
 dsimp only
 refine ⟨by rfl, ?_, ?_⟩
 refine Aj ?_
 ·(repeat' apply And.intro) <;> (first | (first | rfl | trivial | omega | (rw [hst, ← hvr, ← OU]; (try rw [List.take_of_length_le (by omega)]); done) | exact Or.inl rfl | exact Or.inl (by simp) | (rw [hst, ← hvr]; simp [rows, eB]; omega)) | exact Au)
 refine Aj ?_
 ·(repeat' apply And.intro) <;> (first | (first | rfl | trivial | omega | (rw [hst, ← hvr, ← OU]; (try rw [List.take_of_length_le (by omega)]); done) | exact Or.inl rfl | exact Or.inl (by simp) | (rw [hst, ← hvr]; simp [rows, eB]; omega)) | exact Au)
 intro N12 h12
 refine Aa fun N13 h13 => Ac ?_
 refine Ar (hq := Ap) ?_
 refine Aq (hq := Ap) ?_
 refine Ab (h13 _ (As ?_)); clear h13
 refine Aa fun N14 h14 => Ac ?_
 refine Ao (hq := Ap) ?_
 refine Ad (hq := Ap) ?_
 refine Ab (h14 _ (Ak (fun hb15 => ?_) (fun hb15 => ?_))); clear h14
 have hk1 : a = 1 := by have := hb15; (try simp at this); omega
 have hbl := Ie (hok.2.1 hk1)
 refine Ac ?_
 refine Ad (hq := Eo) ?_
 refine Ar (hq := Eo) ?_
 refine Aq (hq := Eo) ?_
 have hc := Ag (E := (J4.at_ 73)) (f := 36) (sp := Spec.pure HQ) rfl
 have hs := @HQ.eq_1
 refine Ba (hq := Eo) ?_
 refine Ad (hq := Eo) ?_
 refine Ab ?_
 refine h12 _ ⟨DZ u b, ?_, [some 0, some 1, some 2], ?_⟩
 dsimp only
 exact (XW (by have := hb15; (try simp at this); omega)).symm
 dsimp only
 refine ⟨by rfl, ?_, ?_⟩
 refine Aj ?_
 exact Cj
 refine Aj ?_
 exact Cj
 have hk1 : ¬a = 1 := by have := hb15; (try simp at this); omega
 obtain ⟨hc0, hci, he0, hei⟩ := hat hk1
 obtain ⟨y1, hv1⟩ := BA (l := Kw u q i) (i := c.toNat) (by omega)
 obtain ⟨y2, hv2⟩ := BA (l := Kw u q i) (i := e.toNat) (by omega)
 refine Aa fun N16 h16 => Ac ?_
 refine Ao (hq := Ap) ?_
 refine Ad (hq := Ap) ?_
 refine Ab (h16 _ (Ak (fun hb17 => ?_) (fun hb17 => ?_))); clear h16
 cases y1
 skip
 have hx := And.intro @hv1 (And.intro @hv2 (And.intro @eB.eq_1 hx0))
 refine Ac ?_
 refine Ad (hq := Ap) ?_
 refine Ar (hq := Ap) ?_
 refine Aq (hq := Ap) ?_
 refine Ar (hq := Ap) ?_
 refine Aq (hq := Ap) ?_
 refine Ad (hq := Ap) ?_
 refine At Bb ?_
 refine At Bb ?_
 refine At Bb ?_
 refine At Bb ?_
 refine At Bb ?_
 refine AH (hq := Ap) ?_
 refine Ad (hq := Ap) ?_
 refine Ab ?_
 have hx := hx0
 refine h12 _ ⟨false, ?_, [some 0, some 1, some 2], ?_⟩
 dsimp only
 exact (Rn (by have := hb17; (try simp at this); omega) hv1 hv2).symm
 dsimp only
 refine ⟨by rfl, ?_, ?_⟩
 refine Aj ?_
 exact Cj
 refine Aj ?_
 exact Cj
 skip
 have hx := And.intro @hv1 (And.intro @hv2 (And.intro @eB.eq_1 hx0))
 refine Ac ?_
 refine Ad (hq := Ap) ?_
 refine Ar (hq := Ap) ?_
 refine Aq (hq := Ap) ?_
 refine Ar (hq := Ap) ?_
 refine Aq (hq := Ap) ?_
 refine Ad (hq := Ap) ?_
 refine C3 (hq := Ap) ?_
 refine CQ (hq := Ap) ?_
 refine C9 (hq := Ap) ?_
 refine CQ (hq := Ap) ?_
 refine C9 (hq := Ap) ?_
 refine AH (hq := Ap) ?_
 refine Ad (hq := Ap) ?_
 refine Ab ?_
 have hx := hx0
 refine h12 _ ⟨y2, ?_, [some 0, some 1, some 2], ?_⟩
 dsimp only
 exact (Rn (by have := hb17; (try simp at this); omega) hv1 hv2).symm.trans (Bool.true_and _) 
 dsimp only
 refine ⟨by rfl, ?_, ?_⟩
 refine Aj ?_
 exact Cj
 refine Aj ?_
 exact Cj
 have hk2 : ¬a = 2 := by have := hb17; (try simp at this); omega
 refine Aa fun N18 h18 => Ac ?_
 refine Ao (hq := Ap) ?_
 refine Ad (hq := Ap) ?_
 refine Ab (h18 _ (Ak (fun hb19 => ?_) (fun hb19 => ?_))); clear h18
 cases y1
 skip
 have hx := And.intro @hv1 (And.intro @hv2 (And.intro @eB.eq_1 hx0))
 refine Ac ?_
 refine Ad (hq := Ap) ?_
 refine Ar (hq := Ap) ?_
 refine Aq (hq := Ap) ?_
 refine Ar (hq := Ap) ?_
 refine Aq (hq := Ap) ?_
 refine Ad (hq := Ap) ?_
 refine C3 (hq := Ap) ?_
 refine CQ (hq := Ap) ?_
 refine C9 (hq := Ap) ?_
 refine CQ (hq := Ap) ?_
 refine C9 (hq := Ap) ?_
 refine AH (hq := Ap) ?_
 refine Ad (hq := Ap) ?_
 refine Ab ?_
 have hx := hx0
 refine h12 _ ⟨y2, ?_, [some 0, some 1, some 2], ?_⟩
 dsimp only
 exact (Ro (by have := hb19; (try simp at this); omega) hv1 hv2).symm
 dsimp only
 refine ⟨by rfl, ?_, ?_⟩
 refine Aj ?_
 exact Cj
 refine Aj ?_
 exact Cj
 skip
 have hx := And.intro @hv1 (And.intro @hv2 (And.intro @eB.eq_1 hx0))
 refine Ac ?_
 refine Ad (hq := Ap) ?_
 refine Ar (hq := Ap) ?_
 refine Aq (hq := Ap) ?_
 refine Ar (hq := Ap) ?_
 refine Aq (hq := Ap) ?_
 refine Ad (hq := Ap) ?_
 refine At Bb ?_
 refine At Bb ?_
 refine At Bb ?_
 refine At Bb ?_
 refine At Bb ?_
 refine AH (hq := Ap) ?_
 refine Ad (hq := Ap) ?_
 refine Ab ?_
 have hx := hx0
 refine h12 _ ⟨true, ?_, [some 0, some 1, some 2], ?_⟩
 dsimp only
 exact (Ro (by have := hb19; (try simp at this); omega) hv1 hv2).symm
 dsimp only
 refine ⟨by rfl, ?_, ?_⟩
 refine Aj ?_
 exact Cj
 refine Aj ?_
 exact Cj
 have hx := And.intro @hv1 (And.intro @eB.eq_1 hx0)
 refine Ac ?_
 refine Ad (hq := Ap) ?_
 refine Ar (hq := Ap) ?_
 refine Aq (hq := Ap) ?_
 refine Ar (hq := Ap) ?_
 refine Aq (hq := Ap) ?_
 refine EL (hq := Ap) ?_
 refine Ad (hq := Ap) ?_
 refine Ab ?_
 have hx := hx0
 refine h12 _ ⟨!y1, ?_, [some 0, some 1, some 2], ?_⟩
 dsimp only
 exact (XX hk1 hk2 (by have := hb19; (try simp at this); omega) hv1).symm
 dsimp only
 refine ⟨by rfl, ?_, ?_⟩
 refine Aj ?_
 exact Cj
 refine Aj ?_
 exact Cj
 obtain rfl : i = q.length := by have := hb8; omega
 have hml := DV u q q.length
 obtain ⟨y1, hv1⟩ := BA (l := Kw u q q.length) (i := q.length - 1) (by omega)
 have hmq : Pk u q = y1 := by unfold Pk; rw [List.getD_eq_getElem?_getD, hv1]; rfl
 have hpm : ((q.length : Int) - 1).toNat = q.length - 1 := by omega
 refine AJ ?_
 simp only [Ae, Nat.reduceEqDiff, reduceIte, eq_self]
 have hx := And.intro @hpm (And.intro @hv1 (And.intro @eB.eq_1 hx0))
 refine h3 _ (Aa fun N20 h20 => Ac ?_); clear h3
 iterate 2 refine Ad (hq := Ap) ?_
 refine AU (hq := Ap) ?_
 refine Ao (hq := Ap) ?_
 refine Ar (hq := Ap) ?_
 refine Aq (hq := Ap) ?_
 refine Ad (hq := Ap) ?_
 have hx := hx0
 refine Ab (h20 _ (Am ?_)); clear h20
 try simp only [Ae]
 rw [hmq]
 refine Aw ?_
 exact Au
 cases hg
def QQ : Bq Tryz.prog := J4.add 40 (Spec.pure TL) Tc (by kernel_rfl)
