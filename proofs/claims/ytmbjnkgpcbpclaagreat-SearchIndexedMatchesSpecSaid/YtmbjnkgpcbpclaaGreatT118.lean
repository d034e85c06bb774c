import Derived.Test.YtmbjnkgpcbpclaaGreatT117
set_option linter.all false
set_option maxRecDepth 100000
set_option maxHeartbeats 4000000
namespace Go.Proofs.YtmbjnkgpcbpclaaGreat
open Go Go.Vc Go.RowKit
def Pi (l : List Int) (P : List AR) (ts : List Bs) (q : List Sn) : Int × Int × List Int := if (HR ts q).1 ≠ 0 then ((HR ts q).1, (HR ts q).2, []) else if La ts = l ∧ KZ ts = P then (0, 0, Ja ts q ts.length) else (16, -1, [])
def M5 : List AV → Option (Prop × AV)
  | [.agg [.d (.sl xs), .d (.sl ps)], .d (.sl us), .agg [.d (.sl ys)]] => some (xs = rows eI (dI xs) ∧ (dI xs).length ≤ 9223372036854775807 ∧ ps = rows eP (dP ps) ∧ (dP ps).length ≤ 9223372036854775807 ∧ DN (dP ps) ∧ us = rows eT (dT us) ∧ (dT us).length ≤ 9223372036854775807 ∧ (∀ s ∈ dT us, s.length ≤ 9223372036854775807) ∧ ys = rows Ec (C8 ys) ∧ (C8 ys).length ≤ 9223372036854775807 ∧ KR (C8 ys), .tup [.d (.sl (rows eI (Pi (dI xs) (dP ps) (dT us) (C8 ys)).2.2)), .agg [.d (.int .i64 (Pi (dI xs) (dP ps) (dT us) (C8 ys)).1), .d (.int .i64 (Pi (dI xs) (dP ps) (dT us) (C8 ys)).2.1)]])
  | _ => none
theorem Iv {ts : List Bs} {q : List Sn} (hf : HR ts q = (0, 0)) : BN ts = (0, 0) ∧ La ts = Cp ts.length ∧ KZ ts = C2 ts ts.length := by
  have ht : (BN ts).1 = 0 := by
    by_cases h : (BN ts).1 = 0
    · exact h
    · exfalso
      unfold HR at hf
      rw [if_pos h] at hf
      rw [hf] at h; exact h rfl
  rcases T7 ts with h | h
  · exact absurd ht h.1
  · exact ⟨h.1, h.2.1, h.2.2.1⟩
theorem Of (l : List Int) (P : List AR) (ts : List Bs) (q : List Sn) : (∃ c i : Int, HR ts q = (c, i) ∧ c ≠ 0 ∧ Pi l P ts q = (c, i, []) ∧ (c = 16 → i ≠ -1)) ∨ (HR ts q = (0, 0) ∧ C4 q = (0, 0) ∧ ts.length ≤ 20 ∧ (∀ s ∈ ts, s.length ≤ 400) ∧ WQ ts q = (0, 0, Ja ts q ts.length) ∧ ((Cp ts.length = l ∧ C2 ts ts.length = P ∧ Pi l P ts q = (0, 0, Ja ts q ts.length)) ∨ (Cp ts.length ≠ l ∧ True ∧ Pi l P ts q = (16, -1, [])) ∨ (Cp ts.length = l ∧ C2 ts ts.length ≠ P ∧ Pi l P ts q = (16, -1, [])))) := by
  rcases Oa ts q with ⟨c, i, h1, h2, _⟩ | ⟨h1, h2, h3, h4, h5⟩
  · refine .inl ⟨c, i, h1, h2, by unfold Pi; rw [h1]; exact if_pos h2, ?_⟩
    rintro rfl rfl
    unfold HR at h1
    split at h1
    · unfold BN at h1
      split at h1
      · cases h1
      · split at h1
        · cases h1
        · cases h1
    · split at h1
      · exact absurd (Prod.mk.inj h1).2 (by decide)
      · cases h1
  · refine .inr ⟨h1, h2, h3, h4, h5, ?_⟩
    obtain ⟨_, HW, HX⟩ := Iv h1
    unfold Pi
    rw [h1, if_neg (by simp), HW, HX]
    by_cases hl : Cp ts.length = l
    · by_cases hP : C2 ts ts.length = P
      · exact .inl ⟨hl, hP, if_pos ⟨hl, hP⟩⟩
      · exact .inr (.inr ⟨hl, hP, if_neg (fun h => hP h.2)⟩)
    · exact .inr (.inl ⟨hl, trivial, if_neg (fun h => hl h.1)⟩)
theorem Qc {ts : List Bs} {q : List Sn} (hv : C4 q = (0, 0)) : ∀ p ∈ Ju (Cp ts.length) (C2 ts ts.length) q, ZV ts p := fun p hp => by
  obtain ⟨_, h1, _, _⟩ := Et hv
  exact DT.1 ((O0 h1).subset hp)
theorem BC {p : Prop} (h : p := by (first | ((repeat' apply And.intro) <;> first | rfl | assumption | exact True.intro | omega) | exact AQ)) : p := h
theorem SM : A5 Tryz.prog 27 (Spec.pure M5) := by
 refine A1 (CV.at_ 45) Tryz.func27 rfl rfl rfl ?_
 intro args p r hg hp
 unfold M5 at hg
 split at hg
 rename_i xs ps us ys
 simp only [Option.some.injEq, Prod.mk.injEq] at hg
 obtain ⟨rfl, rfl⟩ := hg
 obtain ⟨he, hl, he2, hl2, hsm, he3, hl3, hs3, he4, hl4, hbg⟩ := hp
 generalize dI xs = l at *
 generalize dP ps = P at *
 generalize dT us = ts at *
 generalize C8 ys = q at *
 subst he he2 he3 he4
 have hT : (CV).X = T := rfl
 have hx0 := And.intro @BO (And.intro @DG (And.intro @DW (And.intro @BL (And.intro @AE (And.intro @BH (And.intro @De (And.intro @AL (And.intro @Bool.true_and (And.intro @Bool.false_and (And.intro @Ci (And.intro @Ch @Tryz.results27)))))))))))
 have hx := hx0
 refine ⟨by rfl, ?_⟩
 intro F W0 hnp hmk
 refine Aa fun N1 h1 => Ac ?_
 refine Az ?_
 iterate 3 refine Fz (hq := Ap) ?_
 refine Ad (hq := Ap) ?_
 refine Bj (hq := Ap) ?_
 refine Ab (h1 _ (Aa fun N2 h2 => Aa fun N3 h3 => ?_)); clear h1
 rcases Of l P ts q with ⟨c, k, e1, e2, hr, -⟩ | ⟨e1, hv, h20, hsz, -, ⟨a1, a2, hr⟩ | ⟨a1, a2, hr⟩ | ⟨a1, a2, hr⟩⟩
 have c1 : (c = 0) = False := eq_false e2
 have hx := And.intro @e1 hx0
 refine Ac ?_
 iterate 2 refine Aq (hq := Ap) ?_
 have hc := Ag (E := (CV.at_ 45)) (f := 31) (sp := Spec.pure Iz) rfl
 have hs := @Iz.eq_1
 refine Ba (hq := BC) ?_
 refine Bj (hq := Ap) ?_
 refine A4 (hq := Ap) ?_
 have hx := And.intro @c1 hx0
 refine Ab (h3 _ (Aa fun N4 h4 => Ac ?_)); clear h3
 refine Aq (hq := Ap) ?_
 refine BD (hq := Ap) ?_
 refine Ao (hq := Ap) ?_
 have hx := hx0
 refine Ab (h4 _ (Ak (fun hb5 => ?_) (fun hb5 => ?_))); clear h4
 refine Aa fun N6 h6 => Ac ?_
 refine Aq (hq := Ap) ?_
 refine Ad (hq := Ap) ?_
 refine A4 (hq := Ap) ?_
 refine Ab (h6 _ (Am ?_)); clear h6
 try simp only [Ae]
 rw [hr]
 refine Aw ?_
 ·(repeat' apply And.intro) <;> (first | (first | rfl | trivial | omega | exact Or.inl rfl | (rw [List.take_of_length_le (by simp [rows])]; done) | (simp [rows]; done)) | exact Au)
 exact CJ hb5
 have c1 := True.intro
 obtain ⟨htx, HW, HX⟩ := Iv e1
 have hvi := GZ (ts := ts) h20
 have hvf := QB hvi
 have hss := Fi hvi
 have hpl := hvi.plen
 have hio := Bn ts.length
 have hdm := My (ts := ts) hv
 have hin := Qc (ts := ts) hv
 obtain ⟨_, h1, h40, _⟩ := Et hv
 have hmq := Kr (l := Cp ts.length) (P := C2 ts ts.length) h1
 rw [Bn] at hmq
 have hfl := EW ts q ts.length
 have d1 : decide (Cp ts.length = l) = true := decide_eq_true a1
 have d2 : decide (C2 ts ts.length = P) = true := decide_eq_true a2
 have hx := And.intro @e1 hx0
 refine Ac ?_
 iterate 2 refine Aq (hq := Ap) ?_
 have hc := Ag (E := (CV.at_ 45)) (f := 31) (sp := Spec.pure Iz) rfl
 have hs := @Iz.eq_1
 refine Ba (hq := BC) ?_
 refine Bj (hq := Ap) ?_
 refine A4 (hq := Ap) ?_
 have hx := And.intro @c1 hx0
 refine Ab (h3 _ (Aa fun N7 h7 => Ac ?_)); clear h3
 refine Aq (hq := Ap) ?_
 refine BD (hq := Ap) ?_
 refine Ao (hq := Ap) ?_
 have hx := hx0
 refine Ab (h7 _ (Ak (fun hb8 => ?_) (fun hb8 => ?_))); clear h7
 exact CJ hb8
 refine An ?_
 try simp only [Ae]
 have hx := And.intro @htx (And.intro @HW (And.intro @HX hx0))
 refine h2 _ (Aa fun N9 h9 => Ac ?_); clear h2
 refine Aq (hq := Ap) ?_
 have hc := Ag (E := (CV.at_ 45)) (f := 25) (sp := Spec.pure Dr) rfl
 have hs := @Dr.eq_1
 refine Fc (hq := BC) ?_
 refine Ad (hq := Ap) ?_
 iterate 2 refine Dt (hq := Ap) ?_
 iterate 2 refine Bj (hq := Ap) ?_
 iterate 2 refine A4 (hq := Ap) ?_
 have hx := And.intro @d1 (And.intro @d2 hx0)
 refine Ab (h9 _ (Aa fun N10 h10 => Ac ?_)); clear h9
 refine Ar (hq := Ap) ?_
 refine Aq (hq := Ap) ?_
 refine Ar (hq := Ap) ?_
 refine Aq (hq := Ap) ?_
 have hc := Ag (E := (CV.at_ 45)) (f := 54) (sp := Spec.pure CP) rfl
 have hs := @CP.eq_1
 refine Ba (hq := BC) ?_
 refine Ad (hq := Ap) ?_
 refine Gh (hq := by (intro hg; (try simp only [C5, Ca, CC] at hg); exact Ap)) ?_
 refine Gg (hq := by (intro hg; (try simp only [C5, Ca, CC] at hg); exact Ap)) ?_
 refine Gh (hq := by (intro hg; (try simp only [C5, Ca, CC] at hg); exact Ap)) ?_
 refine Gg (hq := by (intro hg; (try simp only [C5, Ca, CC] at hg); exact Ap)) ?_
 have hc := Ag (E := (CV.at_ 45)) (f := 55) (sp := Spec.pure PG) rfl
 have hs := @PG.eq_1
 refine YK (hq := by (intro hg; (try simp only [C5, Ca, CC] at hg); (first | ((repeat' apply And.intro) <;> first | rfl | assumption | exact True.intro | omega) | exact AQ))) ?_
 refine AH (hq := Ap) ?_
 refine Ad (hq := Ap) ?_
 have hx := hx0
 refine Ab (h10 _ (Aa fun N11 h11 => ?_)); clear h10
 refine Aa fun N12 h12 => Ac ?_
 refine Ad (hq := Ap) ?_
 refine EL (hq := Ap) ?_
 refine Ab (h12 _ (Ak (fun hb13 => ?_) (fun hb13 => ?_))); clear h12
 exact CJ hb13
 refine An ?_
 try simp only [Ae]
 have hx := And.intro @hdm hx0
 refine h11 _ (Aa fun N14 h14 => Ac ?_); clear h11
 iterate 2 refine Aq (hq := Ap) ?_
 have hc := Ag (E := (CV.at_ 45)) (f := 50) (sp := Spec.fresh ZJ) rfl
 have hs := @ZJ.eq_1
 refine BM (hq := BC) ?_
 refine Hh (hq := Ap) ?_
 have hc := Ag (E := (CV.at_ 45)) (f := 57) (sp := Spec.gen NQ) rfl
 have hs := @NQ.eq_1
 refine BM (hq := BC) ?_
 refine BD (hq := Ap) ?_
 refine Ad (hq := Ap) ?_
 refine A4 (hq := Ap) ?_
 have hx := hx0
 refine Ab (h14 _ (Am ?_)); clear h14
 try simp only [Ae]
 rw [hr]
 refine Aw ?_
 ·(repeat' apply And.intro) <;> (first | (first | rfl | trivial | omega | exact Or.inl rfl | (rw [List.take_of_length_le (by simp [rows])]; done) | (simp [rows]; done)) | exact Au)
 have c1 := True.intro
 obtain ⟨htx, HW, HX⟩ := Iv e1
 have hvi := GZ (ts := ts) h20
 have hvf := QB hvi
 have hss := Fi hvi
 have hpl := hvi.plen
 have hio := Bn ts.length
 have hdm := My (ts := ts) hv
 have hin := Qc (ts := ts) hv
 obtain ⟨_, h1, h40, _⟩ := Et hv
 have hmq := Kr (l := Cp ts.length) (P := C2 ts ts.length) h1
 rw [Bn] at hmq
 have hfl := EW ts q ts.length
 have d1 : decide (Cp ts.length = l) = false := decide_eq_false a1
 have d2 := True.intro
 have hx := And.intro @e1 hx0
 refine Ac ?_
 iterate 2 refine Aq (hq := Ap) ?_
 have hc := Ag (E := (CV.at_ 45)) (f := 31) (sp := Spec.pure Iz) rfl
 have hs := @Iz.eq_1
 refine Ba (hq := BC) ?_
 refine Bj (hq := Ap) ?_
 refine A4 (hq := Ap) ?_
 have hx := And.intro @c1 hx0
 refine Ab (h3 _ (Aa fun N15 h15 => Ac ?_)); clear h3
 refine Aq (hq := Ap) ?_
 refine BD (hq := Ap) ?_
 refine Ao (hq := Ap) ?_
 have hx := hx0
 refine Ab (h15 _ (Ak (fun hb16 => ?_) (fun hb16 => ?_))); clear h15
 exact CJ hb16
 refine An ?_
 try simp only [Ae]
 have hx := And.intro @htx (And.intro @HW (And.intro @HX hx0))
 refine h2 _ (Aa fun N17 h17 => Ac ?_); clear h2
 refine Aq (hq := Ap) ?_
 have hc := Ag (E := (CV.at_ 45)) (f := 25) (sp := Spec.pure Dr) rfl
 have hs := @Dr.eq_1
 refine Fc (hq := BC) ?_
 refine Ad (hq := Ap) ?_
 iterate 2 refine Dt (hq := Ap) ?_
 iterate 2 refine Bj (hq := Ap) ?_
 iterate 2 refine A4 (hq := Ap) ?_
 have hx := And.intro @d1 (And.intro @d2 hx0)
 refine Ab (h17 _ (Aa fun N18 h18 => Ac ?_)); clear h17
 refine Ar (hq := Ap) ?_
 refine Aq (hq := Ap) ?_
 refine Ar (hq := Ap) ?_
 refine Aq (hq := Ap) ?_
 have hc := Ag (E := (CV.at_ 45)) (f := 54) (sp := Spec.pure CP) rfl
 have hs := @CP.eq_1
 refine Ba (hq := BC) ?_
 refine Ad (hq := Ap) ?_
 refine Gh (hq := by (intro hg; (try simp only [C5, Ca, CC] at hg); exact Ap)) ?_
 refine Gg (hq := by (intro hg; (try simp only [C5, Ca, CC] at hg); exact Ap)) ?_
 refine Gh (hq := by (intro hg; (try simp only [C5, Ca, CC] at hg); exact Ap)) ?_
 refine Gg (hq := by (intro hg; (try simp only [C5, Ca, CC] at hg); exact Ap)) ?_
 refine At Bb ?_
 refine AH (hq := Ap) ?_
 refine Ad (hq := Ap) ?_
 have hx := hx0
 refine Ab (h18 _ (Aa fun N19 h19 => ?_)); clear h18
 refine Aa fun N20 h20 => Ac ?_
 refine Ad (hq := Ap) ?_
 refine EL (hq := Ap) ?_
 refine Ab (h20 _ (Ak (fun hb21 => ?_) (fun hb21 => ?_))); clear h20
 refine Aa fun N22 h22 => Ac ?_
 refine BD (hq := Ap) ?_
 refine Ad (hq := Ap) ?_
 refine A4 (hq := Ap) ?_
 refine Ab (h22 _ (Am ?_)); clear h22
 try simp only [Ae]
 rw [hr]
 refine Aw ?_
 ·(repeat' apply And.intro) <;> (first | (first | rfl | trivial | omega | exact Or.inl rfl | (rw [List.take_of_length_le (by simp [rows])]; done) | (simp [rows]; done)) | exact Au)
 exact CJ hb21
 have c1 := True.intro
 obtain ⟨htx, HW, HX⟩ := Iv e1
 have hvi := GZ (ts := ts) h20
 have hvf := QB hvi
 have hss := Fi hvi
 have hpl := hvi.plen
 have hio := Bn ts.length
 have hdm := My (ts := ts) hv
 have hin := Qc (ts := ts) hv
 obtain ⟨_, h1, h40, _⟩ := Et hv
 have hmq := Kr (l := Cp ts.length) (P := C2 ts ts.length) h1
 rw [Bn] at hmq
 have hfl := EW ts q ts.length
 have d1 : decide (Cp ts.length = l) = true := decide_eq_true a1
 have d2 : decide (C2 ts ts.length = P) = false := decide_eq_false a2
 have hx := And.intro @e1 hx0
 refine Ac ?_
 iterate 2 refine Aq (hq := Ap) ?_
 have hc := Ag (E := (CV.at_ 45)) (f := 31) (sp := Spec.pure Iz) rfl
 have hs := @Iz.eq_1
 refine Ba (hq := BC) ?_
 refine Bj (hq := Ap) ?_
 refine A4 (hq := Ap) ?_
 have hx := And.intro @c1 hx0
 refine Ab (h3 _ (Aa fun N23 h23 => Ac ?_)); clear h3
 refine Aq (hq := Ap) ?_
 refine BD (hq := Ap) ?_
 refine Ao (hq := Ap) ?_
 have hx := hx0
 refine Ab (h23 _ (Ak (fun hb24 => ?_) (fun hb24 => ?_))); clear h23
 exact CJ hb24
 refine An ?_
 try simp only [Ae]
 have hx := And.intro @htx (And.intro @HW (And.intro @HX hx0))
 refine h2 _ (Aa fun N25 h25 => Ac ?_); clear h2
 refine Aq (hq := Ap) ?_
 have hc := Ag (E := (CV.at_ 45)) (f := 25) (sp := Spec.pure Dr) rfl
 have hs := @Dr.eq_1
 refine Fc (hq := BC) ?_
 refine Ad (hq := Ap) ?_
 iterate 2 refine Dt (hq := Ap) ?_
 iterate 2 refine Bj (hq := Ap) ?_
 iterate 2 refine A4 (hq := Ap) ?_
 have hx := And.intro @d1 (And.intro @d2 hx0)
 refine Ab (h25 _ (Aa fun N26 h26 => Ac ?_)); clear h25
 refine Ar (hq := Ap) ?_
 refine Aq (hq := Ap) ?_
 refine Ar (hq := Ap) ?_
 refine Aq (hq := Ap) ?_
 have hc := Ag (E := (CV.at_ 45)) (f := 54) (sp := Spec.pure CP) rfl
 have hs := @CP.eq_1
 refine Ba (hq := BC) ?_
 refine Ad (hq := Ap) ?_
 refine Gh (hq := by (intro hg; (try simp only [C5, Ca, CC] at hg); exact Ap)) ?_
 refine Gg (hq := by (intro hg; (try simp only [C5, Ca, CC] at hg); exact Ap)) ?_
 refine Gh (hq := by (intro hg; (try simp only [C5, Ca, CC] at hg); exact Ap)) ?_
 refine Gg (hq := by (intro hg; (try simp only [C5, Ca, CC] at hg); exact Ap)) ?_
 have hc := Ag (E := (CV.at_ 45)) (f := 55) (sp := Spec.pure PG) rfl
 have hs := @PG.eq_1
 refine YK (hq := by (intro hg; (try simp only [C5, Ca, CC] at hg); (first | ((repeat' apply And.intro) <;> first | rfl | assumption | exact True.intro | omega) | exact AQ))) ?_
 refine AH (hq := Ap) ?_
 refine Ad (hq := Ap) ?_
 have hx := hx0
 refine Ab (h26 _ (Aa fun N27 h27 => ?_)); clear h26
 refine Aa fun N28 h28 => Ac ?_
 refine Ad (hq := Ap) ?_
 refine EL (hq := Ap) ?_
 refine Ab (h28 _ (Ak (fun hb29 => ?_) (fun hb29 => ?_))); clear h28
 refine Aa fun N30 h30 => Ac ?_
 refine BD (hq := Ap) ?_
 refine Ad (hq := Ap) ?_
 refine A4 (hq := Ap) ?_
 refine Ab (h30 _ (Am ?_)); clear h30
 try simp only [Ae]
 rw [hr]
 refine Aw ?_
 ·(repeat' apply And.intro) <;> (first | (first | rfl | trivial | omega | exact Or.inl rfl | (rw [List.take_of_length_le (by simp [rows])]; done) | (simp [rows]; done)) | exact Au)
 exact CJ hb29
 cases hg
def CA : Bq Tryz.prog := CV.add 27 (Spec.pure M5) SM (by kernel_rfl)
