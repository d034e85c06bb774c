import Derived.Test.YtmbjnkgpcbpclaaGreatT59
set_option linter.all false
set_option maxRecDepth 100000
set_option maxHeartbeats 4000000
namespace Go.Proofs.YtmbjnkgpcbpclaaGreat
open Go Go.Vc Go.RowKit
def Ja (ts : List Bs) (q : List Sn) : Nat → List Int
  | 0 => []
  | i + 1 => if Pk (ts.getD i []) q = true then Ja ts q i ++ [(i : Int)] else Ja ts q i
theorem EW (ts : List Bs) (q : List Sn) : ∀ i, (Ja ts q i).length ≤ i
  | 0 => Nat.le_refl _
  | i + 1 => by
    have := EW ts q i
    unfold Ja
    split
    · simp; omega
    · omega
def WQ (ts : List Bs) (q : List Sn) : Int × Int × List Int := if (HR ts q).1 ≠ 0 then ((HR ts q).1, (HR ts q).2, []) else (0, 0, Ja ts q ts.length)
def Zx : List AV → Option (Prop × AV)
  | [.d (.sl xs), .agg [.d (.sl ys)]] => some (xs = rows eT (dT xs) ∧ (dT xs).length ≤ 9223372036854775807 ∧ (∀ s ∈ dT xs, s.length ≤ 9223372036854775807) ∧ ys = rows Ec (C8 ys) ∧ (C8 ys).length ≤ 9223372036854775807 ∧ KR (C8 ys), .tup [.d (.sl (rows eI (WQ (dT xs) (C8 ys)).2.2)), .agg [.d (.int .i64 (WQ (dT xs) (C8 ys)).1), .d (.int .i64 (WQ (dT xs) (C8 ys)).2.1)]])
  | _ => none
def M2 : List AV → Option (Prop × AV)
  | [.d (.sl xs), .agg [.d (.sl ys)]] => some (xs = rows eT (dT xs) ∧ (dT xs).length ≤ 20 ∧ (∀ s ∈ dT xs, s.length ≤ 400) ∧ ys = rows Ec (C8 ys) ∧ C4 (C8 ys) = (0, 0), .d (.sl (rows eI (Ja (dT xs) (C8 ys) (dT xs).length))))
  | _ => none
theorem Ux {ts : List Bs} {q : List Sn} {i : Nat} {z : Bs} (h : ts.getD i [] = z) (hm : Pk z q = true) : Ja ts q (i + 1) = Ja ts q i ++ [(i : Int)] := by show (if _ then _ else _) = _; rw [h, if_pos hm]
theorem XQ {ts : List Bs} {q : List Sn} {i : Nat} {z : Bs} (h : ts.getD i [] = z) (hm : Pk z q = false) : Ja ts q (i + 1) = Ja ts q i := by show (if _ then _ else _) = _; rw [h, if_neg (by rw [hm]; simp)]
theorem XY (l : List Int) (k : Int) : rows eI l ++ [[.int .i64 k]] = rows eI (l ++ [k]) := by simp [rows, eI]
theorem Oa (ts : List Bs) (q : List Sn) : (∃ c i : Int, HR ts q = (c, i) ∧ c ≠ 0 ∧ WQ ts q = (c, i, [])) ∨ (HR ts q = (0, 0) ∧ C4 q = (0, 0) ∧ ts.length ≤ 20 ∧ (∀ s ∈ ts, s.length ≤ 400) ∧ WQ ts q = (0, 0, Ja ts q ts.length)) := by
  unfold WQ
  rcases NU ts q with ⟨c, i, e1, e2, e3⟩ | ⟨e1, c, i, e2, e3, e4⟩ | ⟨e1, e2, e3⟩
  · exact .inl ⟨c, i, e3, e2, by rw [e3]; exact if_pos e2⟩
  · exact .inl ⟨c, -2, e4, e3, by rw [e4]; exact if_pos e3⟩
  · obtain ⟨_, h2, h3⟩ := KH (ts := ts) (by rw [e1])
    exact .inr ⟨e3, e2, h2, h3, by rw [e3]; exact if_neg (by simp)⟩
theorem S8 : A5 Tryz.prog 15 (Spec.pure M2) := by
 refine A1 (QN.at_ 24) Tryz.func15 rfl rfl rfl ?_
 intro args p r hg hp
 unfold M2 at hg
 split at hg
 rename_i xs ys
 simp only [Option.some.injEq, Prod.mk.injEq] at hg
 obtain ⟨rfl, rfl⟩ := hg
 obtain ⟨he, hl, hsz, he2, hv⟩ := hp
 generalize dT xs = ts at *
 generalize C8 ys = q at *
 subst he he2
 have hT : (QN).X = T := rfl
 have hx0 := And.intro @DG (And.intro @BL (And.intro @De (And.intro @AL (And.intro @AE (And.intro @Ci (And.intro @Ch @Tryz.results15))))))
 have hx := hx0
 refine ⟨by rfl, ?_⟩
 intro F W0 hnp hmk
 refine Aa fun N1 h1 => Ac ?_
 refine Az ?_
 refine Fz (hq := Ap) ?_
 refine Ad (hq := Ap) ?_
 refine Ab (h1 _ (Aa fun N2 h2 => Ac ?_)); clear h1
 refine Ad (hq := Ap) ?_
 refine Ab (h2 _ (Aa fun N3 h3 => ?_)); clear h2
 refine Aa fun N4 h4 => Ac ?_
 refine Ad (hq := Ap) ?_
 refine Ab (h4 _ (As ?_)); clear h4
 refine A3 (σ := Nat) (fun s => (fun i => i ≤ ts.length) s)
  (fun s => (fun i => [(0, .d (.sl (rows eT ts))), (3, .ptr 0 0 0), (5, .sl 1 0 (Ja ts q i).length), (6, .d (.int .i64 (i : Nat)))]) s)
  (fun s => (fun i => [some (.one 25 [.d (.sl (rows Ec q))]), some (.vec 3 1 (rows eI (Ja ts q i)))]) s) (fun s => (fun i => ts.length - i) s) hnp 0 ?_ [some 0, none] ?_ ?_
 dsimp only
 omega
 dsimp only
 refine ⟨by rfl, ?_, ?_⟩
 refine Aj ?_
 exact Au
 refine Aj ?_
 exact Au
 rintro i hinv N5 h5
 dsimp only at hinv ⊢
 have i1 := hinv
 have hfl := EW ts q i
 refine Aa fun N6 h6 => ?_
 refine Aa fun N7 h7 => Ac ?_
 refine Az ?_
 iterate 2 refine Ad (hq := Ap) ?_
 refine AU (hq := Ap) ?_
 refine Ao (hq := Ap) ?_
 refine Ab (h7 _ (Ak (fun hb8 => ?_) (fun hb8 => ?_))); clear h7
 have hil : i < ts.length := by have := hb8; omega
 obtain ⟨z, hze⟩ := BA (l := ts) (i := i) hil
 have hzd : ts.getD i [] = z := by rw [List.getD_eq_getElem?_getD, hze]; rfl
 have hzl := hsz z (AB hze)
 refine An ?_
 try simp only [Ae]
 refine h6 _ (Aa fun N9 h9 => As (Aa fun N10 h10 => ?_)); clear h6
 have hx := And.intro @hze (And.intro @eT.eq_1 hx0)
 refine Eu [40] ER (by kernel_rfl) ?_
 iterate 2 refine Ad (hq := Ap) ?_
 refine Ar (hq := Ap) ?_
 iterate 2 refine Aq (hq := Ap) ?_
 have hc := Ag (E := (QN.at_ 24)) (f := 40) (sp := Spec.pure TL) rfl
 have hs := @TL.eq_1
 refine Ba (hq := by (first | ((first | exact ⟨trivial, hv, by omega⟩ | exact ⟨hv, by omega⟩ | ((repeat' apply And.intro) <;> first | rfl | exact hv | omega))) | exact AQ)) ?_
 have hx := hx0
 refine Ab (h10 _ (Ak (fun hb11 => ?_) (fun hb11 => ?_))); clear h10
 have hst := Ux hzd hb11
 refine Ac ?_
 iterate 2 refine Ad (hq := Ap) ?_
 refine Di (hq := Ap) ?_
 refine Bf (hq := Ap) ?_
 refine Ad (hq := Ap) ?_
 refine Ab (h9 _ (Ac ?_)); clear h9
 refine Ad (hq := Ap) ?_
 refine Ao (hq := Ap) ?_
 refine Ad (hq := Ap) ?_
 refine Ab ?_
 refine h5 _ ⟨i + 1, ?_, ?_, [some 0, some 3], ?_⟩
 dsimp only
 omega
 dsimp only
 omega
 dsimp only
 refine ⟨by rfl, ?_, ?_⟩
 refine Aj ?_
 ·(repeat' apply And.intro) <;> (first | (first | rfl | trivial | omega | exact Or.inl rfl | (rw [List.take_of_length_le (Nat.le_refl _), XY, hst]; done) | (rw [hst]; done) | (rw [hst]; simp; done)) | exact Au)
 refine Aj ?_
 ·(repeat' apply And.intro) <;> (first | (first | rfl | trivial | omega | exact Or.inl rfl | (rw [List.take_of_length_le (Nat.le_refl _), XY, hst]; done) | (rw [hst]; done) | (rw [hst]; simp; done)) | exact Au)
 have hst := XQ hzd (by have := hb11; simpa using this)
 refine An ?_
 try simp only [Ae]
 refine h9 _ (Ac ?_); clear h9
 refine Ad (hq := Ap) ?_
 refine Ao (hq := Ap) ?_
 refine Ad (hq := Ap) ?_
 refine Ab ?_
 refine h5 _ ⟨i + 1, ?_, ?_, [some 0, some 1], ?_⟩
 dsimp only
 omega
 dsimp only
 omega
 dsimp only
 refine ⟨by rfl, ?_, ?_⟩
 refine Aj ?_
 ·(repeat' apply And.intro) <;> (first | (first | rfl | trivial | omega | exact Or.inl rfl | (rw [List.take_of_length_le (Nat.le_refl _), XY, hst]; done) | (rw [hst]; done) | (rw [hst]; simp; done)) | exact Au)
 refine Aj ?_
 ·(repeat' apply And.intro) <;> (first | (first | rfl | trivial | omega | exact Or.inl rfl | (rw [List.take_of_length_le (Nat.le_refl _), XY, hst]; done) | (rw [hst]; done) | (rw [hst]; simp; done)) | exact Au)
 obtain rfl : i = ts.length := by have := hb8; omega
 refine AJ ?_
 simp only [Ae, Nat.reduceEqDiff, reduceIte, eq_self]
 refine h3 _ (Aa fun N12 h12 => Ac ?_); clear h3
 iterate 2 refine Ad (hq := Ap) ?_
 refine Ab (h12 _ (Am ?_)); clear h12
 try simp only [Ae]
 refine Aw ?_
 ·(repeat' apply And.intro) <;> (first | (first | rfl | trivial | omega | (rw [List.take_of_length_le (by simp [rows])]; done) | (simp [rows]; done)) | exact Au)
 cases hg
def Lg : Bq Tryz.prog := QN.add 15 (Spec.pure M2) S8 (by kernel_rfl)
theorem S7 : A5 Tryz.prog 10 (Spec.pure Zx) := by
 refine A1 (Lg.at_ 34) Tryz.func10 rfl rfl rfl ?_
 intro args p r hg hp
 unfold Zx at hg
 split at hg
 rename_i xs ys
 simp only [Option.some.injEq, Prod.mk.injEq] at hg
 obtain ⟨rfl, rfl⟩ := hg
 obtain ⟨he, hl, hsm, he2, hl2, hbg⟩ := hp
 generalize dT xs = ts at *
 generalize C8 ys = q at *
 subst he he2
 have hT : (Lg).X = T := rfl
 have hx0 := And.intro @DG (And.intro @BL (And.intro @De (And.intro @AL (And.intro @AE (And.intro @Ci (And.intro @Ch @Tryz.results10))))))
 have hx := hx0
 refine ⟨by rfl, ?_⟩
 intro F W0 hnp hmk
 refine Aa fun N1 h1 => Ac ?_
 refine Az ?_
 refine Fz (hq := Ap) ?_
 refine Ad (hq := Ap) ?_
 refine Bj (hq := Ap) ?_
 refine Ab (h1 _ (Aa fun N2 h2 => Aa fun N3 h3 => ?_)); clear h1
 rcases Oa ts q with ⟨c, k, e1, e2, hr⟩ | ⟨e1, hv, h20, hsz, hr⟩
 have c1 : (c = 0) = False := eq_false e2
 have hx := And.intro @e1 hx0
 refine Ac ?_
 refine Ad (hq := Ap) ?_
 refine Aq (hq := Ap) ?_
 have hc := Ag (E := (Lg.at_ 34)) (f := 31) (sp := Spec.pure Iz) rfl
 have hs := @Iz.eq_1
 refine Ba (hq := by (first | (exact ⟨trivial, hl, hsm, trivial, hl2, hbg⟩) | exact AQ)) ?_
 refine Bj (hq := Ap) ?_
 refine A4 (hq := Ap) ?_
 have hx := And.intro @c1 hx0
 refine Ab (h3 _ (Aa fun N4 h4 => Ac ?_)); clear h3
 refine Aq (hq := Ap) ?_
 refine BD (hq := Ap) ?_
 refine Ao (hq := Ap) ?_
 have hx := hx0
 refine Ab (h4 _ (Ak (fun hb5 => ?_) (fun hb5 => ?_))); clear h4
 refine Aa fun N6 h6 => Ac ?_
 refine Aq (hq := Ap) ?_
 refine Ad (hq := Ap) ?_
 refine A4 (hq := Ap) ?_
 refine Ab (h6 _ (Am ?_)); clear h6
 try simp only [Ae]
 rw [hr]
 refine Aw ?_
 ·(repeat' apply And.intro) <;> (first | (first | rfl | trivial | omega | (rw [List.take_of_length_le (by simp [rows])]; done) | (simp [rows]; done)) | exact Au)
 exact CJ hb5
 have c1 := True.intro
 have hx := And.intro @e1 hx0
 refine Ac ?_
 refine Ad (hq := Ap) ?_
 refine Aq (hq := Ap) ?_
 have hc := Ag (E := (Lg.at_ 34)) (f := 31) (sp := Spec.pure Iz) rfl
 have hs := @Iz.eq_1
 refine Ba (hq := by (first | (exact ⟨trivial, hl, hsm, trivial, hl2, hbg⟩) | exact AQ)) ?_
 refine Bj (hq := Ap) ?_
 refine A4 (hq := Ap) ?_
 have hx := And.intro @c1 hx0
 refine Ab (h3 _ (Aa fun N7 h7 => Ac ?_)); clear h3
 refine Aq (hq := Ap) ?_
 refine BD (hq := Ap) ?_
 refine Ao (hq := Ap) ?_
 have hx := hx0
 refine Ab (h7 _ (Ak (fun hb8 => ?_) (fun hb8 => ?_))); clear h7
 exact CJ hb8
 refine An ?_
 try simp only [Ae]
 refine h2 _ (Aa fun N9 h9 => Ac ?_); clear h2
 refine Ad (hq := Ap) ?_
 refine Ab (h9 _ (Aa fun N10 h10 => ?_)); clear h9
 refine Aa fun N11 h11 => Ac ?_
 refine Ad (hq := Ap) ?_
 refine AU (hq := Ap) ?_
 refine Ad (hq := Ap) ?_
 refine Ab (h11 _ (As ?_)); clear h11
 refine A3 (σ := Nat) (fun s => (fun i => i ≤ ts.length) s)
  (fun s => (fun i => [(0, .d (.sl (rows eT ts))), (3, .ptr 0 0 0), (5, .ptr 1 0 0), (7, .sl 2 0 (Ja ts q i).length), (17, .d (.sl (rows eT ts))), (18, .d (.int .i64 (ts.length : Nat))), (19, .d (.int .i64 (i : Nat)))]) s)
  (fun s => (fun i => [some (.one 25 [.d (.sl (rows Ec q))]), some (.one 29 [.d (.int .i64 0), .d (.int .i64 0)]), some (.vec 3 1 (rows eI (Ja ts q i)))]) s) (fun s => (fun i => ts.length - i) s) hnp 0 ?_ [some 0, some 1, none] ?_ ?_
 dsimp only
 omega
 dsimp only
 refine ⟨by rfl, ?_, ?_⟩
 refine Aj ?_
 exact Au
 refine Aj ?_
 exact Au
 rintro i hinv N12 h12
 dsimp only at hinv ⊢
 have i1 := hinv
 have hfl := EW ts q i
 refine Aa fun N13 h13 => Ac ?_
 refine Az ?_
 refine Ao (hq := Ap) ?_
 refine Ab (h13 _ (Aa fun N14 h14 => Ak (fun hb15 => ?_) (fun hb15 => ?_))); clear h13
 have hil : i < ts.length := by have := hb15; omega
 obtain ⟨z, hze⟩ := BA (l := ts) (i := i) hil
 have hzd : ts.getD i [] = z := by rw [List.getD_eq_getElem?_getD, hze]; rfl
 have hzl := hsz z (AB hze)
 refine An ?_
 try simp only [Ae]
 refine h14 _ (Aa fun N16 h16 => As ?_); clear h14
 have hx := And.intro @hze (And.intro @eT.eq_1 hx0)
 refine Aa fun N17 h17 => Ac ?_
 refine Ad (hq := Ap) ?_
 refine Ar (hq := Ap) ?_
 refine Aq (hq := Ap) ?_
 iterate 2 refine Ad (hq := Ap) ?_
 have hx := hx0
 refine Ab (h17 _ (Aa fun N18 h18 => Ac ?_)); clear h17
 refine Ad (hq := Ap) ?_
 refine Aq (hq := Ap) ?_
 have hc := Ag (E := (Lg.at_ 34)) (f := 32) (sp := Spec.pure TL) rfl
 have hs := @TL.eq_1
 refine Ba (hq := by (first | ((first | exact ⟨trivial, hv, by omega⟩ | exact ⟨hv, by omega⟩ | ((repeat' apply And.intro) <;> first | rfl | exact hv | omega))) | exact AQ)) ?_
 refine Ab (h18 _ (Ak (fun hb19 => ?_) (fun hb19 => ?_))); clear h18
 have hst := Ux hzd hb19
 refine Ac ?_
 iterate 2 refine Ad (hq := Ap) ?_
 refine Di (hq := Ap) ?_
 refine Bf (hq := Ap) ?_
 refine Ad (hq := Ap) ?_
 refine Ab (h16 _ (Ac ?_)); clear h16
 refine Ao (hq := Ap) ?_
 refine Ad (hq := Ap) ?_
 refine Ab ?_
 refine h12 _ ⟨i + 1, ?_, ?_, [some 0, some 1, some 4], ?_⟩
 dsimp only
 omega
 dsimp only
 omega
 dsimp only
 refine ⟨by rfl, ?_, ?_⟩
 refine Aj ?_
 ·(repeat' apply And.intro) <;> (first | (first | rfl | trivial | omega | exact Or.inl rfl | (rw [List.take_of_length_le (Nat.le_refl _), XY, hst]; done) | (rw [hst]; done) | (rw [hst]; simp; done)) | exact Au)
 refine Aj ?_
 ·(repeat' apply And.intro) <;> (first | (first | rfl | trivial | omega | exact Or.inl rfl | (rw [List.take_of_length_le (Nat.le_refl _), XY, hst]; done) | (rw [hst]; done) | (rw [hst]; simp; done)) | exact Au)
 have hst := XQ hzd (by have := hb19; simpa using this)
 refine An ?_
 try simp only [Ae]
 refine h16 _ (Ac ?_); clear h16
 refine Ao (hq := Ap) ?_
 refine Ad (hq := Ap) ?_
 refine Ab ?_
 refine h12 _ ⟨i + 1, ?_, ?_, [some 0, some 1, some 2], ?_⟩
 dsimp only
 omega
 dsimp only
 omega
 dsimp only
 refine ⟨by rfl, ?_, ?_⟩
 refine Aj ?_
 ·(repeat' apply And.intro) <;> (first | (first | rfl | trivial | omega | exact Or.inl rfl | (rw [List.take_of_length_le (Nat.le_refl _), XY, hst]; done) | (rw [hst]; done) | (rw [hst]; simp; done)) | exact Au)
 refine Aj ?_
 ·(repeat' apply And.intro) <;> (first | (first | rfl | trivial | omega | exact Or.inl rfl | (rw [List.take_of_length_le (Nat.le_refl _), XY, hst]; done) | (rw [hst]; done) | (rw [hst]; simp; done)) | exact Au)
 obtain rfl : i = ts.length := by have := hb15; omega
 refine AJ ?_
 simp only [Ae, Nat.reduceEqDiff, reduceIte, eq_self]
 refine h10 _ (Aa fun N20 h20 => Ac ?_); clear h10
 refine Ad (hq := Ap) ?_
 refine BD (hq := Ap) ?_
 refine Ad (hq := Ap) ?_
 refine A4 (hq := Ap) ?_
 refine Ab (h20 _ (Am ?_)); clear h20
 try simp only [Ae]
 rw [hr]
 refine Aw ?_
 ·(repeat' apply And.intro) <;> (first | (first | rfl | trivial | omega | (rw [List.take_of_length_le (by simp [rows])]; done) | (simp [rows]; done)) | exact Au)
 cases hg
def TP : Bq Tryz.prog := Lg.add 10 (Spec.pure Zx) S7 (by kernel_rfl)
