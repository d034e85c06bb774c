import Derived.Test.YtmbjnkgpcbpclaaGreatT11
set_option linter.all false
set_option maxRecDepth 100000
set_option maxHeartbeats 4000000
namespace Go.Proofs.YtmbjnkgpcbpclaaGreat
open Go Go.Vc Go.RowKit
def Ic : List AV → Option (Prop × AV)
  | [.d (.int .i64 n)] => some (0 ≤ n ∧ n ≤ 1000000000, .d (.sl (rows eI (Cp n.toNat))))
  | _ => none
theorem L1 (n : Nat) : rows eI (Cp n) ++ [[.int .i64 (n : Int)]] = rows eI (Cp (n + 1)) := by rw [FP]; simp [rows, eI]
theorem Qj : A5 Tryz.prog 29 (Spec.pure Ic) := by
 refine A1 (Mc.at_ 15) Tryz.func29 rfl rfl rfl ?_
 intro args p r hg hp
 unfold Ic at hg
 split at hg
 rename_i n
 simp only [Option.some.injEq, Prod.mk.injEq] at hg
 obtain ⟨rfl, rfl⟩ := hg
 obtain ⟨h0', hn⟩ := hp
 obtain ⟨n, rfl⟩ := Int.eq_ofNat_of_zero_le h0'
 simp only [Int.toNat_natCast]
 have hT : (Mc).X = T := rfl
 have hx0 := @Tryz.results29
 have hx := hx0
 refine ⟨by rfl, ?_⟩
 intro F W0 hnp hmk
 refine Aa fun N1 h1 => Ac ?_
 refine Az ?_
 refine Ad ?_
 refine Ab (h1 _ (Aa fun N2 h2 => Ac ?_)); clear h1
 refine Ad ?_
 refine Ab (h2 _ (Aa fun N3 h3 => ?_)); clear h2
 refine Aa fun N4 h4 => Ac ?_
 refine Ad ?_
 refine Ab (h4 _ (As ?_)); clear h4
 refine A3 (σ := Nat) (fun s => (fun i => i ≤ n) s)
  (fun s => (fun i => [(0, .d (.int .i64 (n : Nat))), (3, .sl 0 0 i), (4, .d (.int .i64 (i : Nat)))]) s)
  (fun s => (fun i => [some (.vec 3 1 (rows eI (Cp i)))]) s) (fun s => (fun i => n - i) s) hnp 0 ?_ [none] ?_ ?_
 dsimp only
 omega
 dsimp only
 refine ⟨by rfl, ?_, ?_⟩
 refine Aj ?_
 exact Au
 refine Aj ?_
 exact Au
 rintro i hinv N5 h5
 dsimp only at hinv ⊢
 have i1 := hinv
 refine Aa fun N6 h6 => ?_
 refine Aa fun N7 h7 => Ac ?_
 refine Az ?_
 iterate 2 refine Ad ?_
 refine Ao ?_
 refine Ab (h7 _ (Ak (fun hb8 => ?_) (fun hb8 => ?_))); clear h7
 refine An ?_
 try simp only [Ae]
 refine h6 _ (Aa fun N9 h9 => As (Ac ?_)); clear h6
 iterate 2 refine Ad ?_
 refine Di ?_
 refine Bf (hq := by (first | (exact ⟨Nat.le_of_eq (Bn i).symm, by omega⟩) | exact AQ)) ?_
 refine Ad ?_
 refine Ab (h9 _ (Ac ?_)); clear h9
 refine Ad ?_
 refine Ao ?_
 refine Ad ?_
 refine Ab ?_
 refine h5 _ ⟨i + 1, ?_, ?_, [some 2], ?_⟩
 dsimp only
 omega
 dsimp only
 omega
 dsimp only
 refine ⟨by rfl, ?_, ?_⟩
 refine Aj ?_
 ·(repeat' apply And.intro) <;> (first | (first | rfl | (rw [List.take_of_length_le (Nat.le_of_eq (Bn i))]; exact L1 i)) | exact Au)
 refine Aj ?_
 ·(repeat' apply And.intro) <;> (first | (first | rfl | (rw [List.take_of_length_le (Nat.le_of_eq (Bn i))]; exact L1 i)) | exact Au)
 refine AJ ?_
 simp only [Ae, Nat.reduceEqDiff, reduceIte, eq_self]
 refine h3 _ (Aa fun N10 h10 => Ac ?_); clear h3
 iterate 2 refine Ad ?_
 refine Ab (h10 _ (Am ?_)); clear h10
 try simp only [Ae]
 have hie : i = n := by have := hb8; omega
 subst hie
 refine Aw ?_
 ·(repeat' apply And.intro) <;> (first | (first | rfl | (rw [List.take_of_length_le (Nat.le_of_eq (Bn _))]; done) | (simp [Bn]; done)) | exact Au)
 cases hg
def Hv : Bq Tryz.prog := Mc.add 29 (Spec.pure Ic) Qj (by kernel_rfl)
def HV : List AV → Option (Prop × AV)
  | [.agg [.d (.sl a), .d (.sl p)], .agg [.d (.sl b), .d (.sl q)]] => some (a = rows eI (dI a) ∧ b = rows eI (dI b) ∧ (dI a).length ≤ 9223372036854775807 ∧ (dI b).length ≤ 9223372036854775807 ∧ p = rows eP (dP p) ∧ q = rows eP (dP q) ∧ (dP p).length ≤ 9223372036854775807 ∧ (dP q).length ≤ 9223372036854775807 ∧ DN (dP p) ∧ DN (dP q),
      .d (.bool (decide (dI a = dI b ∧ dP p = dP q))))
  | _ => none
theorem PO : A5 Tryz.prog 30 (Spec.pure HV) := by
 refine A1 (Hv.at_ 57) Tryz.func30 rfl rfl rfl ?_
 intro args p r hg hp
 unfold HV at hg
 split at hg
 rename_i a p b q
 simp only [Option.some.injEq, Prod.mk.injEq] at hg
 obtain ⟨rfl, rfl⟩ := hg
 obtain ⟨he1, he2, hl1, hl2, he3, he4, hl3, hl4, hs1, hs2⟩ := hp
 generalize dI a = l at *
 generalize dI b = m at *
 generalize dP p = P at *
 generalize dP q = Q at *
 subst he1 he2 he3 he4
 have hT : (Hv).X = T := rfl
 have hx0 := And.intro @DW (And.intro @NR (And.intro @AE (And.intro @Bool.not_true (And.intro @Bool.not_false (And.intro @Ci (And.intro @Ch @Tryz.results30))))))
 have hx := hx0
 refine ⟨by rfl, ?_⟩
 intro F W0 hnp hmk
 refine Aa fun N1 h1 => Ac ?_
 refine Az ?_
 iterate 2 refine Fz ?_
 refine Ad ?_
 refine Ab (h1 _ (Aa fun N2 h2 => Aa fun N3 h3 => ?_)); clear h1
 by_cases hab : l = m
 have hab' : decide (l = m) = true := decide_eq_true hab
 have hx := And.intro @hab' hx0
 refine Ac ?_
 refine Ar ?_
 refine Aq ?_
 refine Ar ?_
 refine Aq ?_
 have hc := Ag (E := (Hv.at_ 57)) (f := 14) (sp := Spec.pure CP) rfl
 have hs := @CP.eq_1
 refine Ba ?_
 refine EL ?_
 refine Ad ?_
 refine B9 ?_
 refine B8 ?_
 refine Kj ?_
 refine B9 ?_
 refine B8 ?_
 refine Kj ?_
 refine CD ?_
 refine AH ?_
 have hx := hx0
 refine Ab (h3 _ (Ak (fun hb4 => ?_) (fun hb4 => ?_))); clear h3
 refine Aa fun N5 h5 => Ac ?_
 refine Ad ?_
 refine Ab (h5 _ (Am ?_)); clear h5
 try simp only [Ae]
 have hr : decide (l = m ∧ P = Q) = false := decide_eq_false (fun h => by have h2 := congrArg List.length h.2; have := hb4; omega)
 rw [hr]
 refine Aw ?_
 exact Au
 refine An ?_
 try simp only [Ae]
 refine h2 _ (Aa fun N6 h6 => ?_); clear h2
 refine Aa fun N7 h7 => Ac ?_
 refine Ad ?_
 refine Ab (h7 _ (As ?_)); clear h7
 refine A3 (σ := Nat) (fun s => (fun i => P.length = Q.length ∧ i ≤ P.length ∧ P.take i = Q.take i) s)
  (fun s => (fun i => [(2, .ptr 0 0 0), (3, .ptr 1 0 0), (5, .d (.int .i64 (i : Nat)))]) s)
  (fun s => (fun i => [some (.one 49 [.d (.sl (rows eI l)), .d (.sl (rows eP P))]), some (.one 49 [.d (.sl (rows eI m)), .d (.sl (rows eP Q))])]) s) (fun s => (fun i => P.length - i) s) hnp 0 ?_ [some 0, some 1] ?_ ?_
 dsimp only
 exact ⟨by have := hb4; omega, by omega, rfl⟩
 dsimp only
 refine ⟨by rfl, ?_, ?_⟩
 refine Aj ?_
 exact Au
 refine Aj ?_
 exact Au
 rintro i hinv N8 h8
 dsimp only at hinv ⊢
 obtain ⟨i1, i2, i3⟩ := hinv
 refine Aa fun N9 h9 => ?_
 refine Aa fun N10 h10 => Ac ?_
 refine Az ?_
 refine Ad ?_
 refine Ar ?_
 refine Aq ?_
 refine AU ?_
 refine Ao ?_
 refine Ab (h10 _ (Ak (fun hb11 => ?_) (fun hb11 => ?_))); clear h10
 obtain ⟨⟨g, t⟩, hpe⟩ := BA (l := P) (i := i) (by omega)
 obtain ⟨⟨h, u⟩, hqe⟩ := BA (l := Q) (i := i) (by omega)
 have hs3 := hs1 _ (AB hpe)
 have hs4 := hs2 _ (AB hqe)
 have hs5 : t.length ≤ 9223372036854775807 := hs3.2
 have hs6 : u.length ≤ 9223372036854775807 := hs4.2
 refine An ?_
 try simp only [Ae]
 refine h9 _ (Aa fun N12 h12 => As (Aa fun N13 h13 => ?_)); clear h9
 by_cases hgh : g = h
 have hgg : decide (g = h) = true := decide_eq_true hgh
 have hx := And.intro @hpe (And.intro @hqe (And.intro @hgg hx0))
 refine Ac ?_
 refine Ar ?_
 refine Aq ?_
 refine Ad ?_
 iterate 2 refine Ar ?_
 refine Aq ?_
 refine Ar ?_
 refine Aq ?_
 refine Ad ?_
 iterate 2 refine Ar ?_
 refine Aq ?_
 refine Ao ?_
 refine Ad ?_
 refine B9 ?_
 refine B8 ?_
 refine Cw ?_
 iterate 2 refine B9 ?_
 refine B8 ?_
 refine B9 ?_
 refine B8 ?_
 refine Cw ?_
 iterate 2 refine B9 ?_
 refine B8 ?_
 have hc := Ag (E := (Hv.at_ 57)) (f := 14) (sp := Spec.pure CP) rfl
 have hs := @CP.eq_1
 refine H3 ?_
 refine KW ?_
 refine AH ?_
 have hx := hx0
 refine Ab (h13 _ (Ak (fun hb14 => ?_) (fun hb14 => ?_))); clear h13
 refine Aa fun N15 h15 => Ac ?_
 refine Ad ?_
 refine Ab (h15 _ (Am ?_)); clear h15
 try simp only [Ae]
 have hr : decide (l = m ∧ P = Q) = false := decide_eq_false (fun h => O7 hpe hqe (fun e => by have := hb14; exact absurd (Prod.mk.inj e).2 (by simpa using this)) h.2)
 rw [hr]
 refine Aw ?_
 exact Au
 refine An ?_
 try simp only [Ae]
 refine h12 _ (Ac ?_); clear h12
 refine Ad ?_
 refine Ao ?_
 refine Ad ?_
 refine Ab ?_
 refine h8 _ ⟨i + 1, ?_, ?_, [some 0, some 1], ?_⟩
 dsimp only
 exact ⟨i1, by omega, by have htu : t = u := by { have := hb14; simpa using this }; subst hgh; subst htu; exact JE hpe hqe i3⟩
 dsimp only
 omega
 dsimp only
 refine ⟨by rfl, ?_, ?_⟩
 refine Aj ?_
 exact Au
 refine Aj ?_
 exact Au
 have hgg : decide (g = h) = false := decide_eq_false hgh
 have hx := And.intro @hpe (And.intro @hqe (And.intro @hgg hx0))
 refine Ac ?_
 refine Ar ?_
 refine Aq ?_
 refine Ad ?_
 iterate 2 refine Ar ?_
 refine Aq ?_
 refine Ar ?_
 refine Aq ?_
 refine Ad ?_
 iterate 2 refine Ar ?_
 refine Aq ?_
 refine Ao ?_
 refine Ad ?_
 refine B9 ?_
 refine B8 ?_
 refine Cw ?_
 iterate 2 refine B9 ?_
 refine B8 ?_
 refine B9 ?_
 refine B8 ?_
 refine Cw ?_
 iterate 2 refine B9 ?_
 refine B8 ?_
 have hc := Ag (E := (Hv.at_ 57)) (f := 14) (sp := Spec.pure CP) rfl
 have hs := @CP.eq_1
 refine H3 ?_
 refine KW ?_
 refine AH ?_
 have hx := hx0
 refine Ab (h13 _ (Ak (fun hb16 => ?_) (fun hb16 => ?_))); clear h13
 refine Aa fun N17 h17 => Ac ?_
 refine Ad ?_
 refine Ab (h17 _ (Am ?_)); clear h17
 try simp only [Ae]
 have hr : decide (l = m ∧ P = Q) = false := decide_eq_false (fun h => O7 hpe hqe (fun e => hgh (Prod.mk.inj e).1) h.2)
 rw [hr]
 refine Aw ?_
 exact Au
 exact CJ hb16
 refine AJ ?_
 simp only [Ae, Nat.reduceEqDiff, reduceIte, eq_self]
 refine h6 _ (Aa fun N18 h18 => Ac ?_); clear h6
 refine Ad ?_
 refine Ab (h18 _ (Am ?_)); clear h18
 try simp only [Ae]
 have hr : decide (l = m ∧ P = Q) = true := decide_eq_true ⟨hab, by rw [List.take_of_length_le (by omega), List.take_of_length_le (by omega)] at i3; exact i3⟩
 rw [hr]
 refine Aw ?_
 exact Au
 have hab' : decide (l = m) = false := decide_eq_false hab
 have hx := And.intro @hab' hx0
 refine Ac ?_
 refine Ar ?_
 refine Aq ?_
 refine Ar ?_
 refine Aq ?_
 have hc := Ag (E := (Hv.at_ 57)) (f := 14) (sp := Spec.pure CP) rfl
 have hs := @CP.eq_1
 refine Ba ?_
 refine EL ?_
 refine Ad ?_
 refine B9 ?_
 refine B8 ?_
 refine Kj ?_
 refine B9 ?_
 refine B8 ?_
 refine Kj ?_
 refine CD ?_
 refine AH ?_
 have hx := hx0
 refine Ab (h3 _ (Ak (fun hb19 => ?_) (fun hb19 => ?_))); clear h3
 refine Aa fun N20 h20 => Ac ?_
 refine Ad ?_
 refine Ab (h20 _ (Am ?_)); clear h20
 try simp only [Ae]
 have hr : decide (l = m ∧ P = Q) = false := decide_eq_false (fun h => hab h.1)
 rw [hr]
 refine Aw ?_
 exact Au
 exact CJ hb19
 cases hg
def Po : Bq Tryz.prog := Hv.add 30 (Spec.pure HV) PO (by kernel_rfl)
