import Derived.Test.YtmbjnkgpcbpclaaGreatT58
set_option linter.all false
set_option maxRecDepth 100000
set_option maxHeartbeats 4000000
namespace Go.Proofs.YtmbjnkgpcbpclaaGreat
open Go Go.Vc Go.RowKit
def HR (ts : List Bs) (q : List Sn) : Int × Int := if (BN ts).1 ≠ 0 then BN ts else if (C4 q).1 ≠ 0 then ((C4 q).1, -2) else (0, 0)
def Iz : List AV → Option (Prop × AV)
  | [.d (.sl xs), .agg [.d (.sl ys)]] => some (xs = rows eT (dT xs) ∧ (dT xs).length ≤ 9223372036854775807 ∧ (∀ s ∈ dT xs, s.length ≤ 9223372036854775807) ∧ ys = rows Ec (C8 ys) ∧ (C8 ys).length ≤ 9223372036854775807 ∧ KR (C8 ys), .agg [.d (.int .i64 (HR (dT xs) (C8 ys)).1), .d (.int .i64 (HR (dT xs) (C8 ys)).2)])
  | _ => none
theorem KH {ts : List Bs} (h : (BN ts).1 = 0) : BN ts = (0, 0) ∧ ts.length ≤ 20 ∧ ∀ s ∈ ts, s.length ≤ 400 := by
  unfold BN at h ⊢
  split at h
  · cases h
  · rename_i h1
    rw [if_neg h1]
    split at h
    · cases h
    · rename_i h2
      rw [if_neg h2]
      refine ⟨rfl, by omega, fun s hs => ?_⟩
      have : I6 s = false := by
        cases hb : I6 s with
        | false => rfl
        | true => exact absurd (List.any_eq_true.2 ⟨s, hs, hb⟩) h2
      have := of_decide_eq_false this
      omega
theorem NU (ts : List Bs) (q : List Sn) : (∃ c i : Int, BN ts = (c, i) ∧ c ≠ 0 ∧ HR ts q = (c, i)) ∨ (BN ts = (0, 0) ∧ ∃ c i : Int, C4 q = (c, i) ∧ c ≠ 0 ∧ HR ts q = (c, -2)) ∨ (BN ts = (0, 0) ∧ C4 q = (0, 0) ∧ HR ts q = (0, 0)) := by
  unfold HR
  by_cases h : (BN ts).1 = 0
  · rw [if_neg (by simpa using h)]
    by_cases h2 : C4 q = (0, 0)
    · exact .inr (.inr ⟨(KH h).1, h2, if_neg (by simp [h2])⟩)
    · exact .inr (.inl ⟨(KH h).1, _, _, rfl, LQ h2, if_pos (LQ h2)⟩)
  · exact .inl ⟨_, _, rfl, h, if_pos h⟩
theorem Sy : A5 Tryz.prog 31 (Spec.pure Iz) := by
 refine A1 (IZ.at_ 26) Tryz.func31 rfl rfl rfl ?_
 intro args p r hg hp
 unfold Iz at hg
 split at hg
 rename_i xs ys
 simp only [Option.some.injEq, Prod.mk.injEq] at hg
 obtain ⟨rfl, rfl⟩ := hg
 obtain ⟨he, hl, hsm, he2, hl2, hbg⟩ := hp
 generalize dT xs = ts at *
 generalize C8 ys = q at *
 subst he he2
 have hT : (IZ).X = T := rfl
 have hx0 := And.intro @DG (And.intro @BL (And.intro @De (And.intro @AL (And.intro @Ci (And.intro @Ch @Tryz.results31)))))
 have hx := hx0
 refine ⟨by rfl, ?_⟩
 intro F W0 hnp hmk
 refine Aa fun N1 h1 => Ac ?_
 refine Az ?_
 refine Fz ?_
 refine Bj ?_
 refine Ab (h1 _ (Aa fun N2 h2 => Aa fun N3 h3 => ?_)); clear h1
 rcases NU ts q with ⟨c, i, e1, e2, e3⟩ | ⟨e1, c, i, e2, e3, e4⟩ | ⟨e1, e2, e3⟩
 have c1 : (c = 0) = False := eq_false e2
 have hr := e3
 have hv2 := True.intro
 have hx := And.intro @e1 hx0
 refine Ac ?_
 refine Ad ?_
 have hc := Ag (E := (IZ.at_ 26)) (f := 25) (sp := Spec.pure Dr) rfl
 have hs := @Dr.eq_1
 refine Fc ?_
 refine Ad ?_
 iterate 2 refine Dt ?_
 iterate 2 refine Bj ?_
 iterate 2 refine A4 ?_
 have hx := And.intro @c1 hx0
 refine Ab (h3 _ (Aa fun N4 h4 => Ac ?_)); clear h3
 refine Aq ?_
 refine BD ?_
 refine Ao ?_
 have hx := hx0
 refine Ab (h4 _ (Ak (fun hb5 => ?_) (fun hb5 => ?_))); clear h4
 refine Aa fun N6 h6 => Ac ?_
 refine Aq ?_
 refine A4 ?_
 refine Ab (h6 _ (Am ?_)); clear h6
 try simp only [Ae]
 rw [hr]
 refine Aw ?_
 exact Au
 exact CJ hb5
 have c1 : (c = 0) = False := eq_false e3
 have hr := e4
 have hv2 := e2
 have hx := And.intro @e1 hx0
 refine Ac ?_
 refine Ad ?_
 have hc := Ag (E := (IZ.at_ 26)) (f := 25) (sp := Spec.pure Dr) rfl
 have hs := @Dr.eq_1
 refine Fc ?_
 refine Ad ?_
 iterate 2 refine Dt ?_
 iterate 2 refine Bj ?_
 iterate 2 refine A4 ?_
 have hx := And.intro @c1 hx0
 refine Ab (h3 _ (Aa fun N7 h7 => Ac ?_)); clear h3
 refine Aq ?_
 refine BD ?_
 refine Ao ?_
 have hx := hx0
 refine Ab (h7 _ (Ak (fun hb8 => ?_) (fun hb8 => ?_))); clear h7
 exact CJ hb8
 refine An ?_
 try simp only [Ae]
 refine h2 _ (Aa fun N9 h9 => ?_); clear h2
 have hx := And.intro @hv2 hx0
 refine Aa fun N10 h10 => Ac ?_
 refine Aq ?_
 have hc := Ag (E := (IZ.at_ 26)) (f := 11) (sp := Spec.pure Nb) rfl
 have hs := @Nb.eq_1
 refine Ba (hq := by (first | (exact ⟨trivial, hl2, hbg⟩) | exact AQ)) ?_
 refine Bj ?_
 refine A4 ?_
 have hx := And.intro @c1 hx0
 refine Ab (h10 _ (Aa fun N11 h11 => Ac ?_)); clear h10
 refine Aq ?_
 refine BD ?_
 refine Ao ?_
 have hx := hx0
 refine Ab (h11 _ (Ak (fun hb12 => ?_) (fun hb12 => ?_))); clear h11
 refine Aa fun N13 h13 => Ac ?_
 refine Ar ?_
 refine Aq ?_
 refine BD ?_
 refine A4 ?_
 refine Ab (h13 _ (Am ?_)); clear h13
 try simp only [Ae]
 rw [hr]
 refine Aw ?_
 exact Au
 exact CJ hb12
 have c1 := True.intro
 have hr := e3
 have hv2 := e2
 have hx := And.intro @e1 hx0
 refine Ac ?_
 refine Ad ?_
 have hc := Ag (E := (IZ.at_ 26)) (f := 25) (sp := Spec.pure Dr) rfl
 have hs := @Dr.eq_1
 refine Fc ?_
 refine Ad ?_
 iterate 2 refine Dt ?_
 iterate 2 refine Bj ?_
 iterate 2 refine A4 ?_
 have hx := And.intro @c1 hx0
 refine Ab (h3 _ (Aa fun N14 h14 => Ac ?_)); clear h3
 refine Aq ?_
 refine BD ?_
 refine Ao ?_
 have hx := hx0
 refine Ab (h14 _ (Ak (fun hb15 => ?_) (fun hb15 => ?_))); clear h14
 exact CJ hb15
 refine An ?_
 try simp only [Ae]
 refine h2 _ (Aa fun N16 h16 => ?_); clear h2
 have hx := And.intro @hv2 hx0
 refine Aa fun N17 h17 => Ac ?_
 refine Aq ?_
 have hc := Ag (E := (IZ.at_ 26)) (f := 11) (sp := Spec.pure Nb) rfl
 have hs := @Nb.eq_1
 refine Ba (hq := by (first | (exact ⟨trivial, hl2, hbg⟩) | exact AQ)) ?_
 refine Bj ?_
 refine A4 ?_
 have hx := And.intro @c1 hx0
 refine Ab (h17 _ (Aa fun N18 h18 => Ac ?_)); clear h17
 refine Aq ?_
 refine BD ?_
 refine Ao ?_
 have hx := hx0
 refine Ab (h18 _ (Ak (fun hb19 => ?_) (fun hb19 => ?_))); clear h18
 exact CJ hb19
 refine An ?_
 try simp only [Ae]
 refine h16 _ (Aa fun N20 h20 => Ac ?_); clear h16
 refine BD ?_
 refine A4 ?_
 refine Ab (h20 _ (Am ?_)); clear h20
 try simp only [Ae]
 rw [hr]
 refine Aw ?_
 exact Au
 cases hg
def JL : Bq Tryz.prog := IZ.add 31 (Spec.pure Iz) Sy (by kernel_rfl)
theorem S5 : A5 Tryz.prog 13 (Spec.pure Iz) := by
 refine A1 (JL.at_ 34) Tryz.func13 rfl rfl rfl ?_
 intro args p r hg hp
 unfold Iz at hg
 split at hg
 rename_i xs ys
 simp only [Option.some.injEq, Prod.mk.injEq] at hg
 obtain ⟨rfl, rfl⟩ := hg
 obtain ⟨he, hl, hsm, he2, hl2, hbg⟩ := hp
 generalize dT xs = ts at *
 generalize C8 ys = q at *
 subst he he2
 have hT : (JL).X = T := rfl
 have hx0 := And.intro @DG (And.intro @BL (And.intro @De (And.intro @AL (And.intro @X0 (And.intro @Ci (And.intro @Ch @Tryz.results13))))))
 have hx := hx0
 refine ⟨by rfl, ?_⟩
 intro F W0 hnp hmk
 refine Aa fun N1 h1 => Ac ?_
 refine Az ?_
 refine Fz (hq := Ap) ?_
 refine Bj (hq := Ap) ?_
 refine Ab (h1 _ (Aa fun N2 h2 => ?_)); clear h1
 refine Aa fun N3 h3 => Ac ?_
 refine Ad (hq := Ap) ?_
 refine AU (hq := Ap) ?_
 refine Ao (hq := Ap) ?_
 refine Ab (h3 _ (Ak (fun hb4 => ?_) (fun hb4 => ?_))); clear h3
 refine Aa fun N5 h5 => Ac ?_
 have hc := Ag (E := (JL.at_ 34)) (f := 21) (sp := Spec.pure B3) rfl
 have hs := @B3.eq_1
 refine Ba (hq := Ap) ?_
 refine A4 (hq := Ap) ?_
 refine Ab (h5 _ (Am ?_)); clear h5
 try simp only [Ae]
 have hr : HR ts q = (2, -1) := by
  have : BN ts = (2, -1) := by unfold BN; rw [if_pos (by have := hb4; omega)]
  unfold HR; rw [this]; rfl
 rw [hr]
 refine Aw ?_
 exact Au
 refine An ?_
 try simp only [Ae]
 refine h2 _ (Aa fun N6 h6 => ?_); clear h2
 refine Aa fun N7 h7 => Ac ?_
 refine Ad (hq := Ap) ?_
 refine Ab (h7 _ (As ?_)); clear h7
 have h20 : ¬20 < ts.length := by have := hb4; omega
 refine A3 (σ := Nat) (fun s => (fun i => i ≤ ts.length ∧ ∀ y ∈ ts.take i, I6 y = false) s)
  (fun s => (fun i => [(0, .d (.sl (rows eT ts))), (3, .ptr 0 0 0), (4, .ptr 1 0 0), (5, .d (.int .i64 (i : Nat)))]) s)
  (fun s => (fun i => [some (.one 25 [.d (.sl (rows Ec q))]), some (.one 29 [.d (.int .i64 0), .d (.int .i64 0)])]) s) (fun s => (fun i => ts.length - i) s) hnp 0 ?_ [some 0, some 1] ?_ ?_
 dsimp only
 exact ⟨by omega, fun y hy => by simp at hy⟩
 dsimp only
 refine ⟨by rfl, ?_, ?_⟩
 refine Aj ?_
 exact Au
 refine Aj ?_
 exact Au
 rintro i hinv N8 h8
 dsimp only at hinv ⊢
 obtain ⟨i1, i2⟩ := hinv
 refine Aa fun N9 h9 => ?_
 refine Aa fun N10 h10 => Ac ?_
 refine Az ?_
 iterate 2 refine Ad (hq := Ap) ?_
 refine AU (hq := Ap) ?_
 refine Ao (hq := Ap) ?_
 refine Ab (h10 _ (Ak (fun hb11 => ?_) (fun hb11 => ?_))); clear h10
 have hil : i < ts.length := by have := hb11; omega
 obtain ⟨z, hze⟩ := BA (l := ts) (i := i) hil
 have hzl := hsm z (AB hze)
 refine An ?_
 try simp only [Ae]
 refine h9 _ (Aa fun N12 h12 => As ?_); clear h9
 have hx := And.intro @hze (And.intro @eT.eq_1 hx0)
 refine Aa fun N13 h13 => Ac ?_
 iterate 2 refine Ad (hq := Ap) ?_
 refine Ar (hq := Ap) ?_
 refine Aq (hq := Ap) ?_
 refine AU (hq := Ap) ?_
 refine Ao (hq := Ap) ?_
 have hx := hx0
 refine Ab (h13 _ (Ak (fun hb14 => ?_) (fun hb14 => ?_))); clear h13
 have hbz : I6 z = true := decide_eq_true (by have := hb14; (try simp at this); omega)
 refine Aa fun N15 h15 => Ac ?_
 refine Ad (hq := Ap) ?_
 have hc := Ag (E := (JL.at_ 34)) (f := 21) (sp := Spec.pure B3) rfl
 have hs := @B3.eq_1
 refine Ba (hq := Ap) ?_
 refine A4 (hq := Ap) ?_
 refine Ab (h15 _ (Am ?_)); clear h15
 try simp only [Ae]
 have hr : HR ts q = (10, (i : Int)) := by
  obtain ⟨a1, a2⟩ := Rb hze hbz i2
  have : BN ts = (10, (i : Int)) := by unfold BN; rw [if_neg h20, if_pos a1, a2]
  unfold HR; rw [this]; rfl
 rw [hr]
 refine Aw ?_
 exact Au
 have hbz : I6 z = false := decide_eq_false (by have := hb14; (try simp at this); omega)
 refine An ?_
 try simp only [Ae]
 refine h12 _ (Ac ?_); clear h12
 refine Ad (hq := Ap) ?_
 refine Ao (hq := Ap) ?_
 refine Ad (hq := Ap) ?_
 refine Ab ?_
 refine h8 _ ⟨i + 1, ?_, ?_, [some 0, some 1], ?_⟩
 dsimp only
 exact ⟨by omega, LB i2 hze hbz⟩
 dsimp only
 omega
 dsimp only
 refine ⟨by rfl, ?_, ?_⟩
 refine Aj ?_
 exact Au
 refine Aj ?_
 exact Au
 have hall : ∀ y ∈ ts, I6 y = false := by have := hb11; rw [List.take_of_length_le (by omega)] at i2; exact i2
 have hts : BN ts = (0, 0) := by unfold BN; rw [if_neg (by omega), NA hall, if_neg (by simp)]
 have hfd : HR ts q = if (C4 q).1 ≠ 0 then ((C4 q).1, -2) else (0, 0) := by unfold HR; rw [hts]; exact if_neg (by simp)
 refine AJ ?_
 simp only [Ae, Nat.reduceEqDiff, reduceIte, eq_self]
 refine h6 _ (Aa fun N16 h16 => ?_); clear h6
 refine Aa fun N17 h17 => Ac ?_
 refine Aq (hq := Ap) ?_
 have hc := Ag (E := (JL.at_ 34)) (f := 12) (sp := Spec.pure OM) rfl
 have hs := @OM.eq_1
 refine Ba (hq := by (first | (exact ⟨trivial, hl2, hbg⟩) | exact AQ)) ?_
 refine Bj (hq := Ap) ?_
 refine A4 (hq := Ap) ?_
 refine Ab (h17 _ (Aa fun N18 h18 => Ac ?_)); clear h17
 refine Ar (hq := Ap) ?_
 refine Aq (hq := Ap) ?_
 refine Ao (hq := Ap) ?_
 refine Ab (h18 _ (Ak (fun hb19 => ?_) (fun hb19 => ?_))); clear h18
 refine Aa fun N20 h20 => Ac ?_
 refine Ar (hq := Ap) ?_
 refine Aq (hq := Ap) ?_
 have hc := Ag (E := (JL.at_ 34)) (f := 21) (sp := Spec.pure B3) rfl
 have hs := @B3.eq_1
 refine Ba (hq := Ap) ?_
 refine A4 (hq := Ap) ?_
 refine Ab (h20 _ (Am ?_)); clear h20
 try simp only [Ae]
 rw [if_pos (by have := hb19; (try simp at this); omega)] at hfd
 rw [hfd]
 refine Aw ?_
 exact Au
 refine An ?_
 try simp only [Ae]
 refine h16 _ (Aa fun N21 h21 => Ac ?_); clear h16
 refine BD (hq := Ap) ?_
 refine A4 (hq := Ap) ?_
 refine Ab (h21 _ (Am ?_)); clear h21
 try simp only [Ae]
 rw [if_neg (by have := hb19; (try simp at this); omega)] at hfd
 rw [hfd]
 refine Aw ?_
 exact Au
 cases hg
def QN : Bq Tryz.prog := JL.add 13 (Spec.pure Iz) S5 (by kernel_rfl)
