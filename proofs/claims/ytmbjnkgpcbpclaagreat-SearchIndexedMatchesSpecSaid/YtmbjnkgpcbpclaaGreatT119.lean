import Derived.Test.YtmbjnkgpcbpclaaGreatT118
set_option linter.all false
set_option maxRecDepth 100000
set_option maxHeartbeats 4000000
namespace Go.Proofs.YtmbjnkgpcbpclaaGreat
open Go Go.Vc Go.RowKit
def MF : List AV → Option (Prop × AV)
  | [.agg [.d (.sl xs), .d (.sl ps)], .d (.sl us), .agg [.d (.sl ys)]] => some (xs = rows eI (dI xs) ∧ (dI xs).length ≤ 9223372036854775807 ∧ ps = rows eP (dP ps) ∧ (dP ps).length ≤ 9223372036854775807 ∧ DN (dP ps) ∧ us = rows eT (dT us) ∧ (dT us).length ≤ 9223372036854775807 ∧ (∀ s ∈ dT us, s.length ≤ 9223372036854775807) ∧ ys = rows Ec (C8 ys) ∧ (C8 ys).length ≤ 9223372036854775807 ∧ KR (C8 ys), .d (.bool true))
  | _ => none
theorem UA (l : List Int) (P : List AR) (ts : List Bs) (q : List Sn) : (∃ c i : Int, HR ts q = (c, i) ∧ c ≠ 0 ∧ Pi l P ts q = (c, i, []) ∧ c ≠ 16) ∨ (∃ c i : Int, HR ts q = (c, i) ∧ c ≠ 0 ∧ Pi l P ts q = (c, i, []) ∧ c = 16 ∧ i ≠ -1) ∨ (HR ts q = (0, 0) ∧ C4 q = (0, 0) ∧ ts.length ≤ 20 ∧ (∀ s ∈ ts, s.length ≤ 400) ∧ WQ ts q = (0, 0, Ja ts q ts.length) ∧ ((Cp ts.length = l ∧ C2 ts ts.length = P ∧ Pi l P ts q = (0, 0, Ja ts q ts.length)) ∨ (Cp ts.length ≠ l ∧ True ∧ Pi l P ts q = (16, -1, [])) ∨ (Cp ts.length = l ∧ C2 ts ts.length ≠ P ∧ Pi l P ts q = (16, -1, [])))) := by
  rcases Of l P ts q with ⟨c, i, h1, h2, h3, h4⟩ | h
  · by_cases h : c = 16
    · exact .inr (.inl ⟨c, i, h1, h2, h3, h, h4 h⟩)
    · exact .inl ⟨c, i, h1, h2, h3, h⟩
  · exact .inr (.inr h)
theorem PN {ts : List Bs} {q : List Sn} (hf : HR ts q = (0, 0)) : Pi (Cp ts.length) (C2 ts ts.length) ts q = (0, 0, Ja ts q ts.length) := by
  obtain ⟨_, HW, HX⟩ := Iv hf
  unfold Pi
  rw [hf, if_neg (by simp), HW, HX, if_pos ⟨rfl, rfl⟩]
theorem A8 {p : Prop} (h : p := by (first | ((repeat' apply And.intro) <;> first | rfl | assumption | exact True.intro | omega) | exact AQ)) : p := h
theorem DU {p : Prop} (h : p := by (repeat' apply And.intro) <;> (first | (first | rfl | trivial | (simp; done)) | exact Au)) : p := h
theorem Ou : A5 Tryz.prog 8 (Spec.pure MF) := by
 refine A1 (CA.at_ 80) Tryz.func8 rfl rfl rfl ?_
 intro args p r hg hp
 unfold MF at hg
 split at hg
 rename_i xs ps us ys
 simp only [Option.some.injEq, Prod.mk.injEq] at hg
 obtain ⟨rfl, rfl⟩ := hg
 obtain ⟨he, hl, he2, hl2, hsm, he3, hl3, hs3, he4, hl4, hbg⟩ := hp
 generalize dI xs = l at *
 generalize dP ps = P at *
 generalize dT us = ts at *
 generalize C8 ys = q at *
 subst he he2 he3 he4
 have hT : (CA).X = T := rfl
 have hx0 := And.intro @DG (And.intro @DW (And.intro @BL (And.intro @AE (And.intro @BH (And.intro @De (And.intro @AL (And.intro @Bool.not_true (And.intro @Bool.not_false (And.intro @Ci (And.intro @Ch @Tryz.results8))))))))))
 have hx := hx0
 refine ⟨by rfl, ?_⟩
 intro F W0 hnp hmk
 refine Aa fun N1 h1 => Ac ?_
 refine Az ?_
 iterate 2 refine Fz (hq := Ap) ?_
 refine Ad (hq := Ap) ?_
 refine Ab (h1 _ (Aa fun N2 h2 => ?_)); clear h1
 refine Aa fun N3 h3 => Ac ?_
 have hc := Ag (E := (CA.at_ 80)) (f := 9) (sp := Spec.pure Zu) rfl
 have hs := @Zu.eq_1
 refine Ba (hq := Ap) ?_
 refine EL (hq := Ap) ?_
 refine Ab (h3 _ (Ak (fun hb4 => ?_) (fun hb4 => ?_))); clear h3
 exact CJ hb4
 refine An ?_
 try simp only [Ae]
 refine h2 _ (Aa fun N5 h5 => ?_); clear h2
 rcases UA l P ts q with ⟨c, k, e1, e2, hr, e6⟩ | ⟨c, k, e1, e2, hr, e6, e5⟩ | ⟨e1, hv, h20, hsz, -, ⟨a1, a2, hr⟩ | ⟨a1, a2, hr⟩ | ⟨a1, a2, hr⟩⟩
 have c1 : (c = 0) = False := eq_false e2
 have c6 : (c = 16) = False := eq_false e6
 have k6 := True.intro
 have d3 := True.intro
 have hx := And.intro @hr hx0
 refine Ac ?_
 refine Aq (hq := Ap) ?_
 refine Ad (hq := Ap) ?_
 refine Aq (hq := Ap) ?_
 have hc := Ag (E := (CA.at_ 80)) (f := 27) (sp := Spec.pure M5) rfl
 have hs := @M5.eq_1
 refine Fc (hq := A8) ?_
 refine Ad (hq := Ap) ?_
 iterate 2 refine Dt (hq := Ap) ?_
 refine Bj (hq := Ap) ?_
 refine Ad (hq := Ap) ?_
 refine A4 (hq := Ap) ?_
 have hx := And.intro @e1 hx0
 refine Ab (h5 _ (Aa fun N6 h6 => Ac ?_)); clear h5
 refine Ad (hq := Ap) ?_
 refine Aq (hq := Ap) ?_
 have hc := Ag (E := (CA.at_ 80)) (f := 13) (sp := Spec.pure Iz) rfl
 have hs := @Iz.eq_1
 refine Ba (hq := A8) ?_
 refine Bj (hq := Ap) ?_
 refine A4 (hq := Ap) ?_
 have hx := hx0
 refine Ab (h6 _ (Aa fun N7 h7 => Ac ?_)); clear h6
 refine BD (hq := Ap) ?_
 refine Bj (hq := Ap) ?_
 refine A4 (hq := Ap) ?_
 refine Ab (h7 _ (Aa fun N8 h8 => ?_)); clear h7
 have hx := And.intro @c1 hx0
 refine Aa fun N9 h9 => Ac ?_
 refine Ar (hq := Ap) ?_
 refine Aq (hq := Ap) ?_
 refine Ao (hq := Ap) ?_
 have hx := hx0
 refine Ab (h9 _ (Ak (fun hb10 => ?_) (fun hb10 => ?_))); clear h9
 exact CJ hb10
 refine An ?_
 try simp only [Ae]
 refine h8 _ (Aa fun N11 h11 => ?_); clear h8
 have hx := And.intro @c1 hx0
 refine Aa fun N12 h12 => Ac ?_
 refine Ar (hq := Ap) ?_
 refine Aq (hq := Ap) ?_
 refine Ao (hq := Ap) ?_
 refine Ad (hq := Ap) ?_
 iterate 2 refine C9 (hq := Ap) ?_
 refine DO (hq := Ap) ?_
 iterate 2 refine C3 (hq := Ap) ?_
 refine J2 (hq := Ap) ?_
 refine DO (hq := Ap) ?_
 refine Gv (hq := Ap) ?_
 refine AH (hq := Ap) ?_
 have hx := hx0
 refine Ab (h12 _ (Ak (fun hb13 => ?_) (fun hb13 => ?_))); clear h12
 exact CJ hb13
 refine An ?_
 try simp only [Ae]
 refine h11 _ (Aa fun N14 h14 => ?_); clear h11
 have hx := And.intro @c1 (And.intro @c6 (And.intro @k6 hx0))
 refine Aa fun N15 h15 => Ac ?_
 refine Ar (hq := Ap) ?_
 refine Aq (hq := Ap) ?_
 refine Ao (hq := Ap) ?_
 refine Ad (hq := Ap) ?_
 refine CQ (hq := Ap) ?_
 refine C9 (hq := Ap) ?_
 refine DO (hq := Ap) ?_
 refine C3 (hq := Ap) ?_
 refine At Bb ?_
 refine At Bb ?_
 refine At Bb ?_
 refine Gv (hq := Ap) ?_
 refine AH (hq := Ap) ?_
 have hx := hx0
 refine Ab (h15 _ (Ak (fun hb16 => ?_) (fun hb16 => ?_))); clear h15
 exact CJ hb16
 refine An ?_
 try simp only [Ae]
 refine h14 _ (Aa fun N17 h17 => Ac ?_); clear h14
 refine Ad (hq := Ap) ?_
 refine Ab (h17 _ (Am ?_)); clear h17
 try simp only [Ae]
 refine Aw ?_
 exact DU
 have c1 : (c = 0) = False := eq_false e2
 have c6 : (c = 16) = True := eq_true e6
 have k6 : (k = -1) = False := eq_false e5
 have d3 := True.intro
 have hx := And.intro @hr hx0
 refine Ac ?_
 refine Aq (hq := Ap) ?_
 refine Ad (hq := Ap) ?_
 refine Aq (hq := Ap) ?_
 have hc := Ag (E := (CA.at_ 80)) (f := 27) (sp := Spec.pure M5) rfl
 have hs := @M5.eq_1
 refine Fc (hq := A8) ?_
 refine Ad (hq := Ap) ?_
 iterate 2 refine Dt (hq := Ap) ?_
 refine Bj (hq := Ap) ?_
 refine Ad (hq := Ap) ?_
 refine A4 (hq := Ap) ?_
 have hx := And.intro @e1 hx0
 refine Ab (h5 _ (Aa fun N18 h18 => Ac ?_)); clear h5
 refine Ad (hq := Ap) ?_
 refine Aq (hq := Ap) ?_
 have hc := Ag (E := (CA.at_ 80)) (f := 13) (sp := Spec.pure Iz) rfl
 have hs := @Iz.eq_1
 refine Ba (hq := A8) ?_
 refine Bj (hq := Ap) ?_
 refine A4 (hq := Ap) ?_
 have hx := hx0
 refine Ab (h18 _ (Aa fun N19 h19 => Ac ?_)); clear h18
 refine BD (hq := Ap) ?_
 refine Bj (hq := Ap) ?_
 refine A4 (hq := Ap) ?_
 refine Ab (h19 _ (Aa fun N20 h20 => ?_)); clear h19
 have hx := And.intro @c1 hx0
 refine Aa fun N21 h21 => Ac ?_
 refine Ar (hq := Ap) ?_
 refine Aq (hq := Ap) ?_
 refine Ao (hq := Ap) ?_
 have hx := hx0
 refine Ab (h21 _ (Ak (fun hb22 => ?_) (fun hb22 => ?_))); clear h21
 exact CJ hb22
 refine An ?_
 try simp only [Ae]
 refine h20 _ (Aa fun N23 h23 => ?_); clear h20
 have hx := And.intro @c1 hx0
 refine Aa fun N24 h24 => Ac ?_
 refine Ar (hq := Ap) ?_
 refine Aq (hq := Ap) ?_
 refine Ao (hq := Ap) ?_
 refine Ad (hq := Ap) ?_
 iterate 2 refine C9 (hq := Ap) ?_
 refine DO (hq := Ap) ?_
 iterate 2 refine C3 (hq := Ap) ?_
 refine J2 (hq := Ap) ?_
 refine DO (hq := Ap) ?_
 refine Gv (hq := Ap) ?_
 refine AH (hq := Ap) ?_
 have hx := hx0
 refine Ab (h24 _ (Ak (fun hb25 => ?_) (fun hb25 => ?_))); clear h24
 exact CJ hb25
 refine An ?_
 try simp only [Ae]
 refine h23 _ (Aa fun N26 h26 => ?_); clear h23
 have hx := And.intro @c1 (And.intro @c6 (And.intro @k6 hx0))
 refine Aa fun N27 h27 => Ac ?_
 refine Ar (hq := Ap) ?_
 refine Aq (hq := Ap) ?_
 refine Ao (hq := Ap) ?_
 refine Ad (hq := Ap) ?_
 refine CQ (hq := Ap) ?_
 refine C9 (hq := Ap) ?_
 refine DO (hq := Ap) ?_
 refine C3 (hq := Ap) ?_
 refine CQ (hq := Ap) ?_
 refine C9 (hq := Ap) ?_
 refine DO (hq := Ap) ?_
 refine Gv (hq := Ap) ?_
 refine AH (hq := Ap) ?_
 have hx := hx0
 refine Ab (h27 _ (Ak (fun hb28 => ?_) (fun hb28 => ?_))); clear h27
 exact CJ hb28
 refine An ?_
 try simp only [Ae]
 refine h26 _ (Aa fun N29 h29 => Ac ?_); clear h26
 refine Ad (hq := Ap) ?_
 refine Ab (h29 _ (Am ?_)); clear h29
 try simp only [Ae]
 refine Aw ?_
 exact DU
 have c1 := True.intro
 have c2 := True.intro
 have c6 := True.intro
 have k6 := True.intro
 have hvi := GZ (ts := ts) h20
 have hss := Fi hvi
 have hpl := hvi.plen
 have hio := Bn ts.length
 have hto : ((ts.length : Nat) : Int).toNat = ts.length := by omega
 have hr2 := PN (ts := ts) (q := q) e1
 have hfl := EW ts q ts.length
 have d3 : decide (l = Cp ts.length ∧ P = C2 ts ts.length) = true := decide_eq_true ⟨a1.symm, a2.symm⟩
 have hx := And.intro @hr hx0
 refine Ac ?_
 refine Aq (hq := Ap) ?_
 refine Ad (hq := Ap) ?_
 refine Aq (hq := Ap) ?_
 have hc := Ag (E := (CA.at_ 80)) (f := 27) (sp := Spec.pure M5) rfl
 have hs := @M5.eq_1
 refine Fc (hq := A8) ?_
 refine Ad (hq := Ap) ?_
 iterate 2 refine Dt (hq := Ap) ?_
 refine Bj (hq := Ap) ?_
 refine Ad (hq := Ap) ?_
 refine A4 (hq := Ap) ?_
 have hx := And.intro @e1 hx0
 refine Ab (h5 _ (Aa fun N30 h30 => Ac ?_)); clear h5
 refine Ad (hq := Ap) ?_
 refine Aq (hq := Ap) ?_
 have hc := Ag (E := (CA.at_ 80)) (f := 13) (sp := Spec.pure Iz) rfl
 have hs := @Iz.eq_1
 refine Ba (hq := A8) ?_
 refine Bj (hq := Ap) ?_
 refine A4 (hq := Ap) ?_
 have hx := hx0
 refine Ab (h30 _ (Aa fun N31 h31 => Ac ?_)); clear h30
 refine BD (hq := Ap) ?_
 refine Bj (hq := Ap) ?_
 refine A4 (hq := Ap) ?_
 refine Ab (h31 _ (Aa fun N32 h32 => ?_)); clear h31
 have hx := And.intro @c1 hx0
 refine Aa fun N33 h33 => Ac ?_
 refine Ar (hq := Ap) ?_
 refine Aq (hq := Ap) ?_
 refine Ao (hq := Ap) ?_
 have hx := hx0
 refine Ab (h33 _ (Ak (fun hb34 => ?_) (fun hb34 => ?_))); clear h33
 refine Aa fun N35 h35 => ?_
 have hx := And.intro @hto hx0
 refine Eu [29, 28] ER (by kernel_rfl) ?_
 refine Ad (hq := Ap) ?_
 refine AU (hq := Ap) ?_
 have hc := Ag (E := (CA.at_ 80)) (f := 29) (sp := Spec.pure Ic) rfl
 have hs := @Ic.eq_1
 refine Fc (hq := AN) ?_
 refine Ad (hq := Ap) ?_
 have hc := Ag (E := (CA.at_ 80)) (f := 28) (sp := Spec.pure HZ) rfl
 have hs := @HZ.eq_1
 refine Fc (hq := A8) ?_
 refine A4 (hq := Ap) ?_
 have hx := And.intro @d3 hx0
 refine Ab (h35 _ (Aa fun N36 h36 => Ac ?_)); clear h35
 iterate 2 refine Aq (hq := Ap) ?_
 have hc := Ag (E := (CA.at_ 80)) (f := 30) (sp := Spec.pure HV) rfl
 have hs := @HV.eq_1
 refine Ba (hq := A8) ?_
 refine EL (hq := Ap) ?_
 have hx := hx0
 refine Ab (h36 _ (Ak (fun hb37 => ?_) (fun hb37 => ?_))); clear h36
 exact CJ hb37
 refine An ?_
 try simp only [Ae]
 refine h32 _ (Aa fun N38 h38 => ?_); clear h32
 have hx := And.intro @c1 hx0
 refine Aa fun N39 h39 => Ac ?_
 refine Ar (hq := Ap) ?_
 refine Aq (hq := Ap) ?_
 refine Ao (hq := Ap) ?_
 refine Ad (hq := Ap) ?_
 refine At Bb ?_
 refine At Bb ?_
 refine At Bb ?_
 refine At Bb ?_
 refine At Bb ?_
 refine At Bb ?_
 refine At Bb ?_
 refine At Bb ?_
 refine AH (hq := Ap) ?_
 have hx := hx0
 refine Ab (h39 _ (Ak (fun hb40 => ?_) (fun hb40 => ?_))); clear h39
 exact CJ hb40
 refine An ?_
 try simp only [Ae]
 refine h38 _ (Aa fun N41 h41 => ?_); clear h38
 have hx := And.intro @c1 (And.intro @c6 (And.intro @k6 hx0))
 refine Aa fun N42 h42 => Ac ?_
 refine Ar (hq := Ap) ?_
 refine Aq (hq := Ap) ?_
 refine Ao (hq := Ap) ?_
 refine Ad (hq := Ap) ?_
 refine At Bb ?_
 refine At Bb ?_
 refine At Bb ?_
 refine At Bb ?_
 refine At Bb ?_
 refine At Bb ?_
 refine At Bb ?_
 refine At Bb ?_
 refine AH (hq := Ap) ?_
 have hx := hx0
 refine Ab (h42 _ (Ak (fun hb43 => ?_) (fun hb43 => ?_))); clear h42
 have hx := And.intro @hr2 hx0
 refine Aa fun N44 h44 => Ac ?_
 refine Aq (hq := Ap) ?_
 refine Ad (hq := Ap) ?_
 refine Aq (hq := Ap) ?_
 have hc := Ag (E := (CA.at_ 80)) (f := 27) (sp := Spec.pure M5) rfl
 have hs := @M5.eq_1
 refine Fc (hq := A8) ?_
 refine Ad (hq := Ap) ?_
 iterate 2 refine Dt (hq := Ap) ?_
 refine Ad (hq := Ap) ?_
 refine A4 (hq := Ap) ?_
 have hx := hx0
 refine Ab (h44 _ (Aa fun N45 h45 => Ac ?_)); clear h44
 refine Ar (hq := Ap) ?_
 refine Aq (hq := Ap) ?_
 refine Ao (hq := Ap) ?_
 refine Ad (hq := Ap) ?_
 iterate 2 refine C3 (hq := Ap) ?_
 refine C9 (hq := Ap) ?_
 have hc := Ag (E := (CA.at_ 80)) (f := 15) (sp := Spec.pure M2) rfl
 have hs := @M2.eq_1
 refine YR (hq := A8) ?_
 have hc := Ag (E := (CA.at_ 80)) (f := 14) (sp := Spec.pure CP) rfl
 have hs := @CP.eq_1
 refine Lf (hq := A8) ?_
 refine AH (hq := Ap) ?_
 refine Ad (hq := Ap) ?_
 refine Ab (h45 _ (Am ?_)); clear h45
 try simp only [Ae]
 refine Aw ?_
 exact DU
 exact CJ hb43
 exact CJ hb34
 have c1 := True.intro
 have c2 := True.intro
 have c6 := True.intro
 have k6 := True.intro
 have hvi := GZ (ts := ts) h20
 have hss := Fi hvi
 have hpl := hvi.plen
 have hio := Bn ts.length
 have hto : ((ts.length : Nat) : Int).toNat = ts.length := by omega
 have hr2 := PN (ts := ts) (q := q) e1
 have hfl := EW ts q ts.length
 have d3 : decide (l = Cp ts.length ∧ P = C2 ts ts.length) = false := decide_eq_false (fun h => a1 h.1.symm)
 have hx := And.intro @hr hx0
 refine Ac ?_
 refine Aq (hq := Ap) ?_
 refine Ad (hq := Ap) ?_
 refine Aq (hq := Ap) ?_
 have hc := Ag (E := (CA.at_ 80)) (f := 27) (sp := Spec.pure M5) rfl
 have hs := @M5.eq_1
 refine Fc (hq := A8) ?_
 refine Ad (hq := Ap) ?_
 iterate 2 refine Dt (hq := Ap) ?_
 refine Bj (hq := Ap) ?_
 refine Ad (hq := Ap) ?_
 refine A4 (hq := Ap) ?_
 have hx := And.intro @e1 hx0
 refine Ab (h5 _ (Aa fun N46 h46 => Ac ?_)); clear h5
 refine Ad (hq := Ap) ?_
 refine Aq (hq := Ap) ?_
 have hc := Ag (E := (CA.at_ 80)) (f := 13) (sp := Spec.pure Iz) rfl
 have hs := @Iz.eq_1
 refine Ba (hq := A8) ?_
 refine Bj (hq := Ap) ?_
 refine A4 (hq := Ap) ?_
 have hx := hx0
 refine Ab (h46 _ (Aa fun N47 h47 => Ac ?_)); clear h46
 refine BD (hq := Ap) ?_
 refine Bj (hq := Ap) ?_
 refine A4 (hq := Ap) ?_
 refine Ab (h47 _ (Aa fun N48 h48 => ?_)); clear h47
 have hx := And.intro @c1 hx0
 refine Aa fun N49 h49 => Ac ?_
 refine Ar (hq := Ap) ?_
 refine Aq (hq := Ap) ?_
 refine Ao (hq := Ap) ?_
 have hx := hx0
 refine Ab (h49 _ (Ak (fun hb50 => ?_) (fun hb50 => ?_))); clear h49
 refine Aa fun N51 h51 => ?_
 have hx := And.intro @hto hx0
 refine Eu [29, 28] ER (by kernel_rfl) ?_
 refine Ad (hq := Ap) ?_
 refine AU (hq := Ap) ?_
 have hc := Ag (E := (CA.at_ 80)) (f := 29) (sp := Spec.pure Ic) rfl
 have hs := @Ic.eq_1
 refine Fc (hq := AN) ?_
 refine Ad (hq := Ap) ?_
 have hc := Ag (E := (CA.at_ 80)) (f := 28) (sp := Spec.pure HZ) rfl
 have hs := @HZ.eq_1
 refine Fc (hq := A8) ?_
 refine A4 (hq := Ap) ?_
 have hx := And.intro @d3 hx0
 refine Ab (h51 _ (Aa fun N52 h52 => Ac ?_)); clear h51
 iterate 2 refine Aq (hq := Ap) ?_
 have hc := Ag (E := (CA.at_ 80)) (f := 30) (sp := Spec.pure HV) rfl
 have hs := @HV.eq_1
 refine Ba (hq := A8) ?_
 refine EL (hq := Ap) ?_
 have hx := hx0
 refine Ab (h52 _ (Ak (fun hb53 => ?_) (fun hb53 => ?_))); clear h52
 refine Ac ?_
 have hc := Ag (E := (CA.at_ 80)) (f := 21) (sp := Spec.pure B3) rfl
 have hs := @B3.eq_1
 refine Ba (hq := Ap) ?_
 refine A4 (hq := Ap) ?_
 refine Ab (h48 _ (Aa fun N54 h54 => ?_)); clear h48
 have hx := And.intro @c1 hx0
 refine Aa fun N55 h55 => Ac ?_
 refine Ar (hq := Ap) ?_
 refine Aq (hq := Ap) ?_
 refine Ao (hq := Ap) ?_
 refine Ad (hq := Ap) ?_
 iterate 2 refine C9 (hq := Ap) ?_
 refine DO (hq := Ap) ?_
 iterate 2 refine C3 (hq := Ap) ?_
 refine J2 (hq := Ap) ?_
 refine DO (hq := Ap) ?_
 refine Gv (hq := Ap) ?_
 refine AH (hq := Ap) ?_
 have hx := hx0
 refine Ab (h55 _ (Ak (fun hb56 => ?_) (fun hb56 => ?_))); clear h55
 exact CJ hb56
 refine An ?_
 try simp only [Ae]
 refine h54 _ (Aa fun N57 h57 => ?_); clear h54
 have hx := And.intro @c1 (And.intro @c6 (And.intro @k6 hx0))
 refine Aa fun N58 h58 => Ac ?_
 refine Ar (hq := Ap) ?_
 refine Aq (hq := Ap) ?_
 refine Ao (hq := Ap) ?_
 refine Ad (hq := Ap) ?_
 refine CQ (hq := Ap) ?_
 refine C9 (hq := Ap) ?_
 refine DO (hq := Ap) ?_
 refine C3 (hq := Ap) ?_
 refine CQ (hq := Ap) ?_
 refine C9 (hq := Ap) ?_
 refine DO (hq := Ap) ?_
 refine Gv (hq := Ap) ?_
 refine AH (hq := Ap) ?_
 have hx := hx0
 refine Ab (h58 _ (Ak (fun hb59 => ?_) (fun hb59 => ?_))); clear h58
 have hx := And.intro @hr2 hx0
 refine Aa fun N60 h60 => Ac ?_
 refine Aq (hq := Ap) ?_
 refine Ad (hq := Ap) ?_
 refine Aq (hq := Ap) ?_
 have hc := Ag (E := (CA.at_ 80)) (f := 27) (sp := Spec.pure M5) rfl
 have hs := @M5.eq_1
 refine Fc (hq := A8) ?_
 refine Ad (hq := Ap) ?_
 iterate 2 refine Dt (hq := Ap) ?_
 refine Ad (hq := Ap) ?_
 refine A4 (hq := Ap) ?_
 have hx := hx0
 refine Ab (h60 _ (Aa fun N61 h61 => Ac ?_)); clear h60
 refine Ar (hq := Ap) ?_
 refine Aq (hq := Ap) ?_
 refine Ao (hq := Ap) ?_
 refine Ad (hq := Ap) ?_
 iterate 2 refine C3 (hq := Ap) ?_
 refine C9 (hq := Ap) ?_
 have hc := Ag (E := (CA.at_ 80)) (f := 15) (sp := Spec.pure M2) rfl
 have hs := @M2.eq_1
 refine YR (hq := A8) ?_
 have hc := Ag (E := (CA.at_ 80)) (f := 14) (sp := Spec.pure CP) rfl
 have hs := @CP.eq_1
 refine Lf (hq := A8) ?_
 refine AH (hq := Ap) ?_
 refine Ad (hq := Ap) ?_
 refine Ab (h61 _ (Am ?_)); clear h61
 try simp only [Ae]
 refine Aw ?_
 exact DU
 exact CJ hb59
 exact CJ hb53
 exact CJ hb50
 have c1 := True.intro
 have c2 := True.intro
 have c6 := True.intro
 have k6 := True.intro
 have hvi := GZ (ts := ts) h20
 have hss := Fi hvi
 have hpl := hvi.plen
 have hio := Bn ts.length
 have hto : ((ts.length : Nat) : Int).toNat = ts.length := by omega
 have hr2 := PN (ts := ts) (q := q) e1
 have hfl := EW ts q ts.length
 have d3 : decide (l = Cp ts.length ∧ P = C2 ts ts.length) = false := decide_eq_false (fun h => a2 h.2.symm)
 have hx := And.intro @hr hx0
 refine Ac ?_
 refine Aq (hq := Ap) ?_
 refine Ad (hq := Ap) ?_
 refine Aq (hq := Ap) ?_
 have hc := Ag (E := (CA.at_ 80)) (f := 27) (sp := Spec.pure M5) rfl
 have hs := @M5.eq_1
 refine Fc (hq := A8) ?_
 refine Ad (hq := Ap) ?_
 iterate 2 refine Dt (hq := Ap) ?_
 refine Bj (hq := Ap) ?_
 refine Ad (hq := Ap) ?_
 refine A4 (hq := Ap) ?_
 have hx := And.intro @e1 hx0
 refine Ab (h5 _ (Aa fun N62 h62 => Ac ?_)); clear h5
 refine Ad (hq := Ap) ?_
 refine Aq (hq := Ap) ?_
 have hc := Ag (E := (CA.at_ 80)) (f := 13) (sp := Spec.pure Iz) rfl
 have hs := @Iz.eq_1
 refine Ba (hq := A8) ?_
 refine Bj (hq := Ap) ?_
 refine A4 (hq := Ap) ?_
 have hx := hx0
 refine Ab (h62 _ (Aa fun N63 h63 => Ac ?_)); clear h62
 refine BD (hq := Ap) ?_
 refine Bj (hq := Ap) ?_
 refine A4 (hq := Ap) ?_
 refine Ab (h63 _ (Aa fun N64 h64 => ?_)); clear h63
 have hx := And.intro @c1 hx0
 refine Aa fun N65 h65 => Ac ?_
 refine Ar (hq := Ap) ?_
 refine Aq (hq := Ap) ?_
 refine Ao (hq := Ap) ?_
 have hx := hx0
 refine Ab (h65 _ (Ak (fun hb66 => ?_) (fun hb66 => ?_))); clear h65
 refine Aa fun N67 h67 => ?_
 have hx := And.intro @hto hx0
 refine Eu [29, 28] ER (by kernel_rfl) ?_
 refine Ad (hq := Ap) ?_
 refine AU (hq := Ap) ?_
 have hc := Ag (E := (CA.at_ 80)) (f := 29) (sp := Spec.pure Ic) rfl
 have hs := @Ic.eq_1
 refine Fc (hq := AN) ?_
 refine Ad (hq := Ap) ?_
 have hc := Ag (E := (CA.at_ 80)) (f := 28) (sp := Spec.pure HZ) rfl
 have hs := @HZ.eq_1
 refine Fc (hq := A8) ?_
 refine A4 (hq := Ap) ?_
 have hx := And.intro @d3 hx0
 refine Ab (h67 _ (Aa fun N68 h68 => Ac ?_)); clear h67
 iterate 2 refine Aq (hq := Ap) ?_
 have hc := Ag (E := (CA.at_ 80)) (f := 30) (sp := Spec.pure HV) rfl
 have hs := @HV.eq_1
 refine Ba (hq := A8) ?_
 refine EL (hq := Ap) ?_
 have hx := hx0
 refine Ab (h68 _ (Ak (fun hb69 => ?_) (fun hb69 => ?_))); clear h68
 refine Ac ?_
 have hc := Ag (E := (CA.at_ 80)) (f := 21) (sp := Spec.pure B3) rfl
 have hs := @B3.eq_1
 refine Ba (hq := Ap) ?_
 refine A4 (hq := Ap) ?_
 refine Ab (h64 _ (Aa fun N70 h70 => ?_)); clear h64
 have hx := And.intro @c1 hx0
 refine Aa fun N71 h71 => Ac ?_
 refine Ar (hq := Ap) ?_
 refine Aq (hq := Ap) ?_
 refine Ao (hq := Ap) ?_
 refine Ad (hq := Ap) ?_
 iterate 2 refine C9 (hq := Ap) ?_
 refine DO (hq := Ap) ?_
 iterate 2 refine C3 (hq := Ap) ?_
 refine J2 (hq := Ap) ?_
 refine DO (hq := Ap) ?_
 refine Gv (hq := Ap) ?_
 refine AH (hq := Ap) ?_
 have hx := hx0
 refine Ab (h71 _ (Ak (fun hb72 => ?_) (fun hb72 => ?_))); clear h71
 exact CJ hb72
 refine An ?_
 try simp only [Ae]
 refine h70 _ (Aa fun N73 h73 => ?_); clear h70
 have hx := And.intro @c1 (And.intro @c6 (And.intro @k6 hx0))
 refine Aa fun N74 h74 => Ac ?_
 refine Ar (hq := Ap) ?_
 refine Aq (hq := Ap) ?_
 refine Ao (hq := Ap) ?_
 refine Ad (hq := Ap) ?_
 refine CQ (hq := Ap) ?_
 refine C9 (hq := Ap) ?_
 refine DO (hq := Ap) ?_
 refine C3 (hq := Ap) ?_
 refine CQ (hq := Ap) ?_
 refine C9 (hq := Ap) ?_
 refine DO (hq := Ap) ?_
 refine Gv (hq := Ap) ?_
 refine AH (hq := Ap) ?_
 have hx := hx0
 refine Ab (h74 _ (Ak (fun hb75 => ?_) (fun hb75 => ?_))); clear h74
 have hx := And.intro @hr2 hx0
 refine Aa fun N76 h76 => Ac ?_
 refine Aq (hq := Ap) ?_
 refine Ad (hq := Ap) ?_
 refine Aq (hq := Ap) ?_
 have hc := Ag (E := (CA.at_ 80)) (f := 27) (sp := Spec.pure M5) rfl
 have hs := @M5.eq_1
 refine Fc (hq := A8) ?_
 refine Ad (hq := Ap) ?_
 iterate 2 refine Dt (hq := Ap) ?_
 refine Ad (hq := Ap) ?_
 refine A4 (hq := Ap) ?_
 have hx := hx0
 refine Ab (h76 _ (Aa fun N77 h77 => Ac ?_)); clear h76
 refine Ar (hq := Ap) ?_
 refine Aq (hq := Ap) ?_
 refine Ao (hq := Ap) ?_
 refine Ad (hq := Ap) ?_
 iterate 2 refine C3 (hq := Ap) ?_
 refine C9 (hq := Ap) ?_
 have hc := Ag (E := (CA.at_ 80)) (f := 15) (sp := Spec.pure M2) rfl
 have hs := @M2.eq_1
 refine YR (hq := A8) ?_
 have hc := Ag (E := (CA.at_ 80)) (f := 14) (sp := Spec.pure CP) rfl
 have hs := @CP.eq_1
 refine Lf (hq := A8) ?_
 refine AH (hq := Ap) ?_
 refine Ad (hq := Ap) ?_
 refine Ab (h77 _ (Am ?_)); clear h77
 try simp only [Ae]
 refine Aw ?_
 exact DU
 exact CJ hb75
 exact CJ hb69
 exact CJ hb66
 cases hg
