import Derived.Test.YtmbjnkgpcbpclaaGreatT15
set_option linter.all false
set_option maxRecDepth 100000
set_option maxHeartbeats 4000000
namespace Go.Proofs.YtmbjnkgpcbpclaaGreat
open Go Go.Vc Go.RowKit
def FW (ty : TypeId) : DP
  | [.d (.sl xs)], [] => some (CW 1 xs ∧ xs.length ≤ 1000000000, .sl 0 0 xs.length, [some (.vec ty 1 xs)])
  | _, _ => none
def Ii (is : Bool) (k : Int) (P : List AR) (x : Int) : Bool := !(is && decide (x ∈ (P.getD k.toNat ([], [])).2))
def Hz (Q : Int → Bool) (l : List Int) : List Int := l.filter fun x => !Q x
def Ka : List AV → Option (Prop × AV)
  | [.d (.int .i64 p), .d (.ptr [.bool b]), .d (.ptr [z, .sl ps]), .d (.ptr [.int .i64 k])] => some (ps = rows eP (dP ps) ∧ DN (dP ps) ∧ (b = true → 0 ≤ k ∧ k < (dP ps).length), .d (.bool (Ii b k (dP ps) p)))
  | _ => none
def Oo : List AV → Option (Prop × AV)
  | [.d (.sl xs), .clo (.func 86) [.d (.ptr [.bool b]), .d (.ptr [z, .sl ps]), .d (.ptr [.int .i64 k])]] => some (xs = rows eI (dI xs) ∧ (dI xs).length ≤ 9223372036854775807 ∧ ps = rows eP (dP ps) ∧ DN (dP ps) ∧ (b = true → 0 ≤ k ∧ k < (dP ps).length), .d (.int .i64 (Js (Ii b k (dP ps)) (dI xs))))
  | _ => none
def Dh : DP
  | [.sl 0 0 n, .clo (.func 86) [.ptr 1 0 0, .ptr 2 0 0, .ptr 3 0 0]], [some (.vec t s xs), some (.one tb [.d (.bool b)]), some (.one tx [.d z, .d (.sl ps)]), some (.one ti [.d (.int .i64 k)])] =>
    some (t = 3 ∧ s = 1 ∧ xs = rows eI (dI xs) ∧ n = (dI xs).length ∧ (dI xs).length ≤ 1000000000 ∧ ps = rows eP (dP ps) ∧ DN (dP ps) ∧ (b = true → 0 ≤ k ∧ k < (dP ps).length),
      .sl 0 0 (Hz (Ii b k (dP ps)) (dI xs)).length, [some (.vec 3 1 (rows eI (Hz (Ii b k (dP ps)) (dI xs)))), some (.one tb [.d (.bool b)]), some (.one tx [.d z, .d (.sl ps)]), some (.one ti [.d (.int .i64 k)])])
  | _, _ => none
theorem Ra (Q : Int → Bool) (l : List Int) : (Js Q l = -1 ∧ ∀ y ∈ l, Q y = false) ∨ ∃ i : Nat, ∃ x, Js Q l = (i : Int) ∧ l[i]? = some x ∧ Q x = true ∧ ∀ y ∈ l.take i, Q y = false := by
  unfold Js
  split
  · rename_i h
    have hlt := List.findIdx_lt_length.2 (List.any_eq_true.1 h)
    refine .inr ⟨_, _, rfl, List.getElem?_eq_getElem hlt, List.findIdx_getElem, fun y hy => ?_⟩
    obtain ⟨j, hj⟩ := List.getElem?_of_mem hy
    rw [List.getElem?_take] at hj
    split at hj
    · rename_i hjl
      have := List.not_of_lt_findIdx hjl
      have h2 := (List.getElem?_eq_some_iff.1 hj).2
      rw [h2] at this
      simpa using this
    · cases hj
  · rename_i h
    refine .inl ⟨rfl, fun y hy => ?_⟩
    cases hq : Q y with
    | false => rfl
    | true => exact absurd (List.any_eq_true.2 ⟨y, hy, hq⟩) h
theorem ID {Q : Int → Bool} {l : List Int} (h : ∀ y ∈ l, Q y = false) : Hz Q l = l := List.filter_eq_self.2 fun x hx => by rw [h x hx]; rfl
structure DL (Q : Int → Bool) (l m : List Int) (i j : Nat) : Prop where
  len : m.length = l.length
  le : i < j
  jl : j ≤ l.length
  low : m.take i = Hz Q (l.take j)
  high : m.drop j = l.drop j
theorem DL.start {Q : Int → Bool} {l : List Int} {i : Nat} {x : Int} (hx : l[i]? = some x) (hq : Q x = true) (hn : ∀ y ∈ l.take i, Q y = false) : DL Q l l i (i + 1) := by
  refine ⟨rfl, by omega, (List.getElem?_eq_some_iff.1 hx).1, ?_, rfl⟩
  unfold Hz
  rw [List.take_add_one, hx, List.filter_append, show List.filter (fun x => !Q x) (Option.toList (some x)) = [] by simp [hq], List.append_nil]
  exact (ID hn).symm
theorem DL.get {Q : Int → Bool} {l m : List Int} {i j : Nat} (h : DL Q l m i j) (hj : j < l.length) : ∃ x, m[j]? = some x ∧ l[j]? = some x := by
  obtain ⟨x, hx⟩ := BA hj
  refine ⟨x, ?_, hx⟩
  have := congrArg (fun z => z[0]?) h.high
  simpa [List.getElem?_drop, hx] using this
theorem DL.keep {Q : Int → Bool} {l m : List Int} {i j : Nat} {x : Int} (h : DL Q l m i j) (hx : l[j]? = some x) (hq : Q x = false) : DL Q l (m.set i x) (i + 1) (j + 1) := by
  have hj := (List.getElem?_eq_some_iff.1 hx).1
  have := h.le; have := h.len
  refine ⟨by simp [h.len], by omega, by omega, ?_, ?_⟩
  · rw [List.take_add_one, List.take_set_of_le (Nat.le_refl _), h.low, List.getElem?_set]
    unfold Hz
    rw [List.take_add_one, hx, List.filter_append]
    simp [hq, show i < m.length by omega]
  · rw [List.drop_set_of_lt (by omega), ← List.drop_drop, ← List.drop_drop, h.high]
theorem DL.skip {Q : Int → Bool} {l m : List Int} {i j : Nat} {x : Int} (h : DL Q l m i j) (hx : l[j]? = some x) (hq : Q x = true) : DL Q l m i (j + 1) := by
  have hj := (List.getElem?_eq_some_iff.1 hx).1
  have := h.le
  refine ⟨h.len, by omega, by omega, ?_, by rw [← List.drop_drop, ← List.drop_drop, h.high]⟩
  rw [h.low]; unfold Hz
  rw [List.take_add_one, hx, List.filter_append]
  simp [hq]
theorem DL.fin {Q : Int → Bool} {l m : List Int} {i : Nat} (h : DL Q l m i l.length) : m.take i = Hz Q l ∧ (Hz Q l).length = i := by
  have h1 := h.low; rw [List.take_length] at h1
  refine ⟨h1, ?_⟩
  rw [← h1, List.length_take]; have := h.le; have := h.len; omega
theorem Z1 {P : List AR} {k : Int} (h : 0 ≤ k ∧ k < P.length) : ∃ g t, P[k.toNat]? = some (g, t) ∧ P.getD k.toNat ([], []) = (g, t) := by
  obtain ⟨⟨g, t⟩, hx⟩ := BA (l := P) (i := k.toNat) (by omega)
  exact ⟨g, t, hx, B5 hx⟩
theorem Mu : A5 Tryz.prog 76 (Spec.fresh (FW 3)) := by
 refine F8 (Pm.at_ 8) Tryz.func76 rfl rfl rfl ?_
 intro args bl p r bf hg hp
 unfold FW at hg
 split at hg
 rename_i xs
 simp only [Option.some.injEq, Prod.mk.injEq] at hg
 obtain ⟨rfl, rfl, rfl⟩ := hg
 obtain ⟨hr, hb⟩ := hp
 have hT : (Pm).X = T := rfl
 have hx0 := @Tryz.results76
 have hx := hx0
 refine ⟨Nat.le_of_ble_eq_true rfl, ?_⟩
 intro F W0 M0 hnp hmk
 have hnp : Bl.np = 0 := hnp
 refine Aa fun N1 h1 => Ac ?_
 refine Az ?_
 refine Ad ?_
 refine Ab (h1 _ (Aa fun N2 h2 => ?_)); clear h1
 refine Aa fun N3 h3 => Ac ?_
 refine Ad ?_
 refine AS (by rfl) (T0 (by exact DF) (by exact DE) (by exact DB) (by first | (simp only [R9, wB, eq_self, Nat.reduceEqDiff, reduceIte]; done) | (simp only [R9, wB, eq_self, Nat.reduceEqDiff, reduceIte]; rfl)) fun z_r1_1 hz_r1_1 hz_r1_1' => ?_)
 refine Ab (h3 _ (Ak (fun hb4 => ?_) (fun hb4 => ?_))); clear h3
 have hz := hz_r1_1 hb4
 unfold IE at hz
 subst hz
 refine Aa fun N5 h5 => Ac ?_
 refine Ad ?_
 refine Ab (h5 _ (Am ?_)); clear h5
 try simp only [Ae]
 refine Aj ?_
 refine ⟨[none], by rfl, ?_, ?_⟩
 refine Aj ?_
 exact Au
 refine Aj ?_
 exact Au
 refine An ?_
 try simp only [Ae]
 refine h2 _ (Aa fun N6 h6 => Ac ?_); clear h2
 refine Di ?_
 refine Ad ?_
 refine Bf (hq := by (first | (exact ⟨hr, by omega⟩) | exact AQ)) ?_
 refine Ad ?_
 refine Ab (h6 _ (Am ?_)); clear h6
 try simp only [Ae]
 refine Aj ?_
 refine ⟨[some 1], by rfl, ?_, ?_⟩
 refine Aj ?_
 exact Au
 refine Aj ?_
 exact Au
 cases hg
def Gy : Bq Tryz.prog := Pm.add 76 (Spec.fresh (FW 3)) Mu (by kernel_rfl)
theorem P3 : A5 Tryz.prog 86 (Spec.pure Ka) := by
 refine A1 (Gy.at_ 19) Tryz.func86 rfl rfl rfl ?_
 intro args p r hg hp
 unfold Ka at hg
 split at hg
 rename_i p b z ps k
 simp only [Option.some.injEq, Prod.mk.injEq] at hg
 obtain ⟨rfl, rfl⟩ := hg
 obtain ⟨he, hsm, hk⟩ := hp
 generalize dP ps = P at *
 subst he
 have hT : (Gy).X = T := rfl
 have hx0 := And.intro @AE (And.intro @NR (And.intro @Ci (And.intro @Ch @Tryz.results86)))
 have hx := hx0
 refine ⟨by rfl, ?_⟩
 intro F W0 hnp hmk
 refine Aa fun N1 h1 => Ac ?_
 refine Az ?_
 refine Ad ?_
 refine Ab (h1 _ (Aa fun N2 h2 => ?_)); clear h1
 cases b
 have hr : Ii false k P p = true := rfl
 have hr2 := hsm
 have hx := And.intro @hr2 (And.intro @DW hx0)
 refine Ac ?_
 refine Aq ?_
 refine EL ?_
 refine Ad ?_
 refine B9 ?_
 iterate 2 refine B8 ?_
 iterate 2 refine B9 ?_
 refine B8 ?_
 refine Cw ?_
 have hc := Ag (E := (Gy.at_ 19)) (f := 73) (sp := Spec.pure Dg) rfl
 have hs := @Dg.eq_1
 refine H3 ?_
 refine KW ?_
 refine AH ?_
 refine Ad ?_
 have hx := hx0
 refine Ab (h2 _ (Am ?_)); clear h2
 try simp only [Ae]
 rw [hr]
 refine Aw ?_
 exact Au
 obtain ⟨g, t, hxe, hxd⟩ := Z1 (hk rfl)
 have hk0 := hk rfl
 have hpm : t.length ≤ 9223372036854775807 := (hsm _ (AB hxe)).2
 have hr : Ii true k P p = !decide (p ∈ t) := by unfold Ii; rw [hxd]; rfl
 have hr2 := hxe
 have hx := And.intro @hr2 (And.intro @DW hx0)
 refine Ac ?_
 refine Aq ?_
 refine EL ?_
 refine Ad ?_
 refine B9 ?_
 iterate 2 refine B8 ?_
 iterate 2 refine B9 ?_
 refine B8 ?_
 refine Cw ?_
 have hc := Ag (E := (Gy.at_ 19)) (f := 73) (sp := Spec.pure Dg) rfl
 have hs := @Dg.eq_1
 refine H3 ?_
 refine KW ?_
 refine AH ?_
 refine Ad ?_
 have hx := hx0
 refine Ab (h2 _ (Am ?_)); clear h2
 try simp only [Ae]
 rw [hr]
 refine Aw ?_
 exact Au
 cases hg
def LU : Bq Tryz.prog := Gy.add 86 (Spec.pure Ka) P3 (by kernel_rfl)
theorem PV : A5 Tryz.prog 80 (Spec.pure Oo) := by
 refine A1 (LU.at_ 19) Tryz.func80 rfl rfl rfl ?_
 intro args p r hg hp
 unfold Oo at hg
 split at hg
 rename_i xs b z ps k
 simp only [Option.some.injEq, Prod.mk.injEq] at hg
 obtain ⟨rfl, rfl⟩ := hg
 obtain ⟨he, hl, hf, hsm, hk⟩ := hp
 generalize dI xs = l at *
 generalize dP ps = P at *
 subst he hf
 have hT : (LU).X = T := rfl
 have hx0 := And.intro @BH @Tryz.results80
 have hx := hx0
 refine ⟨by rfl, ?_⟩
 intro F W0 hnp hmk
 refine Aa fun N1 h1 => Ac ?_
 refine Az ?_
 refine Ad ?_
 refine Ab (h1 _ (Aa fun N2 h2 => ?_)); clear h1
 refine Aa fun N3 h3 => Ac ?_
 refine Ad ?_
 refine AU ?_
 refine Ad ?_
 refine Ab (h3 _ (As ?_)); clear h3
 refine A3 (σ := Nat) (fun s => (fun k' => k' ≤ l.length ∧ ∀ y ∈ l.take k', Ii b k P y = false) s)
  (fun s => (fun k' => [(0, .d (.sl (rows eI l))), (1, .clo (.func 86) [.d (.ptr [.bool b]), .d (.ptr [z, .sl (rows eP P)]), .d (.ptr [.int .i64 k])]), (6, .d (.sl (rows eI l))), (7, .d (.int .i64 (l.length : Nat))), (8, .d (.int .i64 (k' : Nat)))]) s)
  (fun s => (fun k' => []) s) (fun s => (fun k' => l.length - k') s) hnp 0 ?_ [] ?_ ?_
 dsimp only
 simp
 dsimp only
 refine ⟨by rfl, ?_, ?_⟩
 refine Aj ?_
 exact Au
 refine Aj ?_
 exact Au
 rintro k' hinv N4 h4
 dsimp only at hinv ⊢
 obtain ⟨k1, k2⟩ := hinv
 refine Aa fun N5 h5 => Ac ?_
 refine Az ?_
 refine Ao ?_
 refine Ab (h5 _ (Aa fun N6 h6 => Ak (fun hb7 => ?_) (fun hb7 => ?_))); clear h5
 obtain ⟨x, hxe⟩ := BA (l := l) (i := k') (by omega)
 refine An ?_
 try simp only [Ae]
 refine h6 _ (Aa fun N8 h8 => As ?_); clear h6
 refine Aa fun N9 h9 => Ac ?_
 iterate 2 refine Ad ?_
 have hx := And.intro @hxe (And.intro @eI.eq_1 hx0)
 refine Ab (h9 _ (Aa fun N10 h10 => Ac ?_)); clear h9
 iterate 3 refine Ad ?_
 refine Ar ?_
 refine Aq ?_
 have hc := (rfl : ((LU.at_ 19)).Γ 86 = some (Spec.pure Ka))
 have hs := (@Ka.eq_1)
 refine Q6 (hq := by (first | (first | exact ⟨hsm, hk⟩ | exact ⟨rfl, hsm, hk⟩ | (rw [BH]; first | exact ⟨rfl, hsm, hk⟩ | exact ⟨⟨trivial, trivial, trivial⟩, rfl, hsm, hk⟩)) | exact AQ)) ?_
 have hx := hx0
 refine Ab (h10 _ (Ak (fun hb11 => ?_) (fun hb11 => ?_))); clear h10
 have ht := hb11
 try simp only [BH] at ht
 refine Aa fun N12 h12 => Ac ?_
 iterate 2 refine Ad ?_
 refine Ab (h12 _ (Am ?_)); clear h12
 try simp only [Ae]
 rw [Mz hxe (by simpa using ht) k2]
 refine Aw ?_
 exact Au
 have ht := hb11
 try simp only [BH] at ht
 refine An ?_
 try simp only [Ae]
 refine h8 _ (Ac ?_); clear h8
 refine Ao ?_
 refine Ad ?_
 refine Ab ?_
 refine h4 _ ⟨k' + 1, ?_, ?_, [], ?_⟩
 dsimp only
 exact ⟨by omega, Fo k2 hxe (by simpa using ht)⟩
 dsimp only
 omega
 dsimp only
 refine ⟨by rfl, ?_, ?_⟩
 refine Aj ?_
 exact Au
 refine Aj ?_
 exact Au
 refine AJ ?_
 simp only [Ae, Nat.reduceEqDiff, reduceIte, eq_self]
 refine h2 _ (Aa fun N13 h13 => Ac ?_); clear h2
 refine Ad ?_
 refine Ab (h13 _ (Am ?_)); clear h13
 try simp only [Ae]
 rw [IF (by rw [List.take_of_length_le (by omega)] at k2; exact k2)]
 refine Aw ?_
 exact Au
 cases hg
def JO : Bq Tryz.prog := LU.add 80 (Spec.pure Oo) PV (by kernel_rfl)
theorem EZ {p : Prop} (h : p := by (repeat' apply And.intro) <;> (first | (first | rfl | trivial | (simp [rows, eI]; done)) | exact Au)) : p := h
theorem Il {p : Prop} (h : p := by (repeat' apply And.intro) <;> (first | (first | rfl | trivial | omega | (simp [rows, A6, List.map_take]; done) | (simp [rows, A6, List.map_take]; omega)) | exact Au)) : p := h
theorem NO : A5 Tryz.prog 57 (Spec.gen Dh) := by
 refine Bm (JO.at_ 42) Tryz.func57 rfl rfl rfl ?_
 intro args bl p r bf hg hp
 unfold Dh at hg
 split at hg
 rename_i n t s xs tb b tx z ps ti k
 simp only [Option.some.injEq, Prod.mk.injEq] at hg
 obtain ⟨rfl, rfl, rfl⟩ := hg
 obtain ⟨rfl, rfl, he, rfl, hl, hf, hsm, hk⟩ := hp
 generalize dI xs = l at *
 generalize dP ps = P at *
 subst he hf
 have hT : (JO).X = T := rfl
 have hx0 := And.intro @BH @Tryz.results57
 have hx := hx0
 refine ⟨Nat.le_of_ble_eq_true rfl, ?_⟩
 intro F W0 M0 hnp hmk
 have hnp : Bl.np = 4 := hnp
 refine Aa fun N1 h1 => Ac ?_
 refine Az ?_
 refine Ad ?_
 refine Ab (h1 _ (Aa fun N2 h2 => Ac ?_)); clear h1
 iterate 2 refine Ad ?_
 have hc := Ag (E := (JO.at_ 42)) (f := 80) (sp := Spec.pure Oo) rfl
 have hs := @Oo.eq_1
 refine Ba (hq := by (first | (exact ⟨Nat.le_refl _, by simp; omega, hsm, hk⟩) | exact AQ)) ?_
 refine Ad ?_
 refine Ab ?_
 simp only [List.take_length]
 refine h2 _ (Aa fun N3 h3 => Aa fun N4 h4 => ?_); clear h2
 rcases Ra (Ii b k P) l with ⟨hf1, hf2⟩ | ⟨i0, x0, hf1, hf2, hf3, hf4⟩
 have hdl := ID hf2
 have hx := And.intro @hf1 hx0
 refine Ac ?_
 refine Ad ?_
 refine Ao ?_
 have hx := hx0
 refine Ab (h4 _ (Ak (fun hb5 => ?_) (fun hb5 => ?_))); clear h4
 refine Aa fun N6 h6 => Ac ?_
 iterate 2 refine Ad ?_
 refine Ab (h6 _ (Am ?_)); clear h6
 try simp only [Ae]
 rw [hdl]
 refine Aj ?_
 refine ⟨[some 0, some 1, some 2, some 3], by rfl, ?_, ?_⟩
 refine Aj ?_
 exact Au
 refine Aj ?_
 exact Au
 exact CJ hb5
 have hst := DL.start hf2 hf3 hf4
 have hi0 := (List.getElem?_eq_some_iff.1 hf2).1
 have hx := And.intro @hf1 hx0
 refine Ac ?_
 refine Ad ?_
 refine Ao ?_
 have hx := hx0
 refine Ab (h4 _ (Ak (fun hb7 => ?_) (fun hb7 => ?_))); clear h4
 exact CJ hb7
 refine An ?_
 try simp only [Ae]
 refine h3 _ (Aa fun N8 h8 => ?_); clear h3
 refine Aa fun N9 h9 => Ac ?_
 refine Ad ?_
 refine Ao ?_
 refine Ad ?_
 refine Ab (h9 _ (As ?_)); clear h9
 refine A3 (σ := Nat × Nat × List Int) (fun s => (fun i j m => DL (Ii b k P) l m i j) (s.1) (s.2.1) (s.2.2))
  (fun s => (fun i j m => [(0, .sl 0 0 l.length), (1, .clo (.func 86) [.ptr 1 0 0, .ptr 2 0 0, .ptr 3 0 0]), (5, .d (.int .i64 (i : Nat))), (6, .d (.int .i64 (j : Nat)))]) (s.1) (s.2.1) (s.2.2))
  (fun s => (fun i j m => [some (.vec 3 1 (rows eI m)), some (.one tb [.d (.bool b)]), some (.one tx [.d z, .d (.sl (rows eP P))]), some (.one ti [.d (.int .i64 k)])]) (s.1) (s.2.1) (s.2.2)) (fun s => (fun i j m => l.length - j) (s.1) (s.2.1) (s.2.2)) hnp (i0, i0 + 1, l) ?_ [some 0, some 1, some 2, some 3] ?_ ?_
 dsimp only
 exact hst
 dsimp only
 refine ⟨by rfl, ?_, ?_⟩
 refine Aj ?_
 exact Au
 refine Aj ?_
 exact Au
 rintro ⟨i, j, m⟩ hinv N10 h10
 dsimp only at hinv ⊢
 have hiv := hinv
 have hml := hinv.len
 have hij := hinv.le
 have hjl := hinv.jl
 refine Aa fun N11 h11 => ?_
 refine Aa fun N12 h12 => Ac ?_
 refine Az ?_
 iterate 2 refine Ad ?_
 refine AU ?_
 refine Ao ?_
 refine Ab (h12 _ (Ak (fun hb13 => ?_) (fun hb13 => ?_))); clear h12
 obtain ⟨x, hmx, hlx⟩ := hiv.get (by have := hiv.len; omega)
 refine An ?_
 try simp only [Ae]
 refine h11 _ (Aa fun N14 h14 => As ?_); clear h11
 have hx := And.intro @hmx (And.intro @eI.eq_1 hx0)
 refine Aa fun N15 h15 => Ac ?_
 iterate 2 refine Ad ?_
 refine Ar ?_
 refine Aq ?_
 refine Ad ?_
 have hx := hx0
 refine Ab (h15 _ (Aa fun N16 h16 => Ac ?_)); clear h15
 iterate 2 refine Ad ?_
 have hc := (rfl : ((JO.at_ 42)).Γ 86 = some (Spec.pure Ka))
 have hs := (@Ka.eq_1)
 refine Q6 (hq := by (first | (first | exact ⟨hsm, hk⟩ | exact ⟨rfl, hsm, hk⟩ | (rw [BH]; first | exact ⟨rfl, hsm, hk⟩ | exact ⟨⟨trivial, trivial, trivial⟩, rfl, hsm, hk⟩)) | exact AQ)) ?_
 refine EL ?_
 refine Ab (h16 _ (Ak (fun hb17 => ?_) (fun hb17 => ?_))); clear h16
 have hq : Ii b k P x = false := by have := hb17; (try simp only [BH] at this); simpa using this
 obtain ⟨y, hye⟩ := BA (l := m) (i := i) (by omega)
 have hx := And.intro @hye (And.intro @eI.eq_1 hx0)
 refine Aa fun N18 h18 => Ac ?_
 iterate 3 refine Ad ?_
 refine Ar ?_
 refine A4 ?_
 have hx := hx0
 refine Ab (h18 _ (Ac ?_)); clear h18
 refine Ad ?_
 refine Ao ?_
 refine Ad ?_
 refine Ab (h14 _ (Ac ?_)); clear h14
 refine Ad ?_
 refine Ao ?_
 refine Ad ?_
 refine Ab ?_
 refine h10 _ ⟨(i + 1, j + 1, m.set i x), ?_, ?_, [some 0, some 1, some 2, some 3], ?_⟩
 dsimp only
 exact hiv.keep hlx hq
 dsimp only
 omega
 dsimp only
 refine ⟨by rfl, ?_, ?_⟩
 refine Aj ?_
 exact EZ
 refine Aj ?_
 exact EZ
 have hq : Ii b k P x = true := by have := hb17; (try simp only [BH] at this); simpa using this
 refine An ?_
 try simp only [Ae]
 refine h14 _ (Ac ?_); clear h14
 refine Ad ?_
 refine Ao ?_
 refine Ad ?_
 refine Ab ?_
 refine h10 _ ⟨(i, j + 1, m), ?_, ?_, [some 0, some 1, some 2, some 3], ?_⟩
 dsimp only
 exact hiv.skip hlx hq
 dsimp only
 omega
 dsimp only
 refine ⟨by rfl, ?_, ?_⟩
 refine Aj ?_
 exact EZ
 refine Aj ?_
 exact EZ
 refine AJ ?_
 simp only [Ae, Nat.reduceEqDiff, reduceIte, eq_self]
 refine h8 _ (Aa fun N19 h19 => Ac ?_); clear h8
 iterate 2 refine Ad ?_
 refine BZ ?_
 refine AS (by rfl) (LK (by exact DF) (by exact DE) (by simp only [wB, eq_self, Nat.reduceEqDiff, reduceIte]; rfl) (by exact DB) (by exact DB) rfl ?_)
 try simp only [wB, eq_self, Nat.reduceEqDiff, reduceIte, wL, Int.toNat_natCast, Int.reduceToNat, Nat.reduceAdd, Nat.reduceMul, Nat.reduceSub, Nat.reduceLeDiff, hx]
 refine Ab (h19 _ (Aa fun N20 h20 => Ac ?_)); clear h19
 iterate 2 refine Ad ?_
 refine BZ ?_
 refine Ad ?_
 refine Ab (h20 _ (Am ?_)); clear h20
 try simp only [Ae]
 obtain rfl : j = l.length := by omega
 obtain ⟨hfi, hfl⟩ := hiv.fin
 rw [hfl, ← hfi]
 refine Aj ?_
 refine ⟨[some 0, some 1, some 2, some 3], by rfl, ?_, ?_⟩
 refine Aj ?_
 exact Il
 refine Aj ?_
 exact Il
 cases hg
def Dc : Bq Tryz.prog := JO.add 57 (Spec.gen Dh) NO (by kernel_rfl)
