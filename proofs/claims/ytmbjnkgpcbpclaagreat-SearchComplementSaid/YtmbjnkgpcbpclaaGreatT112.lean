/- Walks, printed by wip/gen/walk.py. -/
import Derived.Test.YtmbjnkgpcbpclaaGreatT111
import Derived.Test.YtmbjnkgpcbpclaaGreatV5
set_option linter.all false
set_option maxRecDepth 100000
set_option maxHeartbeats 4000000
namespace Go.Proofs.YtmbjnkgpcbpclaaGreat
open Go Go.Vc Go.RowKit
def Lx (l : List Int) (P : List AM) (q : List Sn) : Int × Int × List Int := if (Ca l P).1 ≠ 0 then ((Ca l P).1, (Ca l P).2, []) else if (BR q).1 ≠ 0 then ((BR q).1, -1, []) else (0, 0, Ib l P q)
def Tm : List AV → Option (Prop × AV)
  | [.agg [.d (.sl xs), .d (.sl ps)], .agg [.d (.sl ys)]] => some (xs = rows eI (dI xs) ∧ (dI xs).length ≤ 9223372036854775807 ∧ ps = rows eP (dP ps) ∧ (dP ps).length ≤ 9223372036854775807 ∧ Fo (dP ps) ∧ ys = rows DL (C3 ys) ∧ (C3 ys).length ≤ 9223372036854775807 ∧ IG (C3 ys), .tup [.d (.sl (rows eI (Lx (dI xs) (dP ps) (C3 ys)).2.2)), .agg [.d (.int .i64 (Lx (dI xs) (dP ps) (C3 ys)).1), .d (.int .i64 (Lx (dI xs) (dP ps) (C3 ys)).2.1)]])
  | _ => none
theorem QC (l : List Int) (P : List AM) (q : List Sn) : (∃ c i : Int, Ca l P = (c, i) ∧ c ≠ 0 ∧ Lx l P q = (c, i, [])) ∨ (Ca l P = (0, 0) ∧ ∃ c i : Int, BR q = (c, i) ∧ c ≠ 0 ∧ Lx l P q = (c, -1, [])) ∨ (Ca l P = (0, 0) ∧ BR q = (0, 0) ∧ Lx l P q = (0, 0, Ib l P q)) := by
  unfold Lx
  rcases Lz l P with h | h
  · right
    rw [h, if_neg (by simp)]
    by_cases hs : BR q = (0, 0)
    · right; rw [hs, if_neg (by simp)]; exact ⟨rfl, rfl, rfl⟩
    · left
      have h0 := HI hs
      rw [if_pos h0]
      exact ⟨rfl, (BR q).1, (BR q).2, rfl, h0, rfl⟩
  · left
    rw [if_pos h]
    exact ⟨(Ca l P).1, (Ca l P).2, rfl, h, rfl⟩
def Wj (fu : Nat) : List AV → Option (Prop × AV)
  | [.agg [.d (.sl xs), .d (.sl ps)], .agg [.d (.sl ys)], .d (.int .i64 i)] => some (xs = rows eI (dI xs) ∧ ps = rows eP (dP ps) ∧ Ca (dI xs) (dP ps) = (0, 0) ∧ ys = rows DL (C3 ys) ∧ BR (C3 ys) = (0, 0) ∧ 0 ≤ i ∧ i < (C3 ys).length ∧ i < fu, .d (.sl (rows eI ((Dg (dI xs) (dP ps) (C3 ys) (C3 ys).length).getD i.toNat []))))
  | _ => none
theorem QD : A5 Tryz.prog 22 (Spec.pure Tm) := by
 refine A7 (GJ.at_ 26) Tryz.func22 rfl rfl rfl ?_
 intro args p r hg hp
 unfold Tm at hg
 split at hg
 rename_i xs ps ys
 simp only [Option.some.injEq, Prod.mk.injEq] at hg
 obtain ⟨rfl, rfl⟩ := hg
 obtain ⟨he, hl, he2, hl2, hsm, he3, hl3, hbg⟩ := hp
 generalize dI xs = l at *
 generalize dP ps = P at *
 generalize C3 ys = q at *
 subst he he2 he3
 have hT : (GJ).X = T := rfl
 have hx0 := And.intro @EB (And.intro @A0 (And.intro @AJ (And.intro @B6 (And.intro @AX (And.intro @Cu (And.intro @Ct @Tryz.results22))))))
 have hx := hx0
 refine ⟨by rfl, ?_⟩
 intro F W0 hnp hmk
 refine Aa fun N1 h1 => ?_
 refine Ad ?_
 try refine Ac ?_
 iterate 2 refine FU (hq := by exact Aq) ?_
 refine Ae (hq := by exact Aq) ?_
 refine B8 (hq := by exact Aq) ?_
 refine Ab ?_
 refine h1 _ ?_; clear h1
 refine Aa fun N2 h2 => ?_
 refine Aa fun N3 h3 => ?_
 rcases QC l P q with ⟨c, k, e1, e2, hr⟩ | ⟨e1, c, k, e3, e2, hr⟩ | ⟨e1, e3, hr⟩
 have c1 : (c = 0) = False := eq_false e2
 have hx := And.intro @e1 hx0
 refine Ad ?_
 try refine Ac ?_
 refine Ar (hq := by exact Aq) ?_
 have hc := Ah (E := (GJ.at_ 26)) (f := 49) (sp := Spec.pure EZ) rfl
 have hs := @EZ.eq_1
 refine BF (hq := by (first | (exact ⟨rfl, hl, rfl, hl2, hsm⟩) | exact Ay)) ?_
 refine B8 (hq := by exact Aq) ?_
 refine A8 (hq := by exact Aq) ?_
 refine Ab ?_
 have hx := hx0
 refine h3 _ ?_; clear h3
 refine Aa fun N4 h4 => ?_
 have hx := And.intro @c1 hx0
 refine Ad ?_
 try refine Ac ?_
 refine Ar (hq := by exact Aq) ?_
 refine BC (hq := by exact Aq) ?_
 refine Am (hq := by exact Aq) ?_
 refine Ab ?_
 have hx := hx0
 refine h4 _ ?_; clear h4
 refine Al (fun hb5 => ?_) (fun hb5 => ?_)
 refine Aa fun N6 h6 => ?_
 refine Ad ?_
 try refine Ac ?_
 refine Ar (hq := by exact Aq) ?_
 refine Ae (hq := by exact Aq) ?_
 refine A8 (hq := by exact Aq) ?_
 refine Ab ?_
 refine h6 _ ?_; clear h6
 refine Ao ?_
 try simp only [Af]
 rw [hr]
 refine A3 ?_
 ·(repeat' apply And.intro) <;> (first | (first | rfl | trivial | omega | exact Or.inl rfl | (rw [List.take_of_length_le (by simp [rows])]; done) | (simp [rows]; done)) | exact At)
 ·first | omega | exact absurd trivial hb5 | contradiction | (simp_all; done)
 have c1 : (c = 0) = False := eq_false e2
 have hx := And.intro @e1 hx0
 refine Ad ?_
 try refine Ac ?_
 refine Ar (hq := by exact Aq) ?_
 have hc := Ah (E := (GJ.at_ 26)) (f := 49) (sp := Spec.pure EZ) rfl
 have hs := @EZ.eq_1
 refine BF (hq := by (first | (exact ⟨rfl, hl, rfl, hl2, hsm⟩) | exact Ay)) ?_
 refine B8 (hq := by exact Aq) ?_
 refine A8 (hq := by exact Aq) ?_
 refine Ab ?_
 have hx := hx0
 refine h3 _ ?_; clear h3
 refine Aa fun N7 h7 => ?_
 refine Ad ?_
 try refine Ac ?_
 refine Ar (hq := by exact Aq) ?_
 refine BC (hq := by exact Aq) ?_
 refine Am (hq := by exact Aq) ?_
 refine Ab ?_
 refine h7 _ ?_; clear h7
 refine Al (fun hb8 => ?_) (fun hb8 => ?_)
 ·first | omega | exact absurd trivial hb8 | contradiction | (simp_all; done)
 refine An ?_
 try simp only [Af]
 refine h2 _ ?_; clear h2
 refine Aa fun N9 h9 => ?_
 refine Aa fun N10 h10 => ?_
 have hx := And.intro @e3 hx0
 refine Ad ?_
 try refine Ac ?_
 refine Ar (hq := by exact Aq) ?_
 have hc := Ah (E := (GJ.at_ 26)) (f := 11) (sp := Spec.pure HH) rfl
 have hs := @HH.eq_1
 refine BF (hq := by (first | (exact ⟨rfl, hl3, hbg⟩) | exact Ay)) ?_
 refine B8 (hq := by exact Aq) ?_
 refine A8 (hq := by exact Aq) ?_
 refine Ab ?_
 have hx := hx0
 refine h10 _ ?_; clear h10
 refine Aa fun N11 h11 => ?_
 have hx := And.intro @c1 hx0
 refine Ad ?_
 try refine Ac ?_
 refine Ar (hq := by exact Aq) ?_
 refine BC (hq := by exact Aq) ?_
 refine Am (hq := by exact Aq) ?_
 refine Ab ?_
 have hx := hx0
 refine h11 _ ?_; clear h11
 refine Al (fun hb12 => ?_) (fun hb12 => ?_)
 refine Aa fun N13 h13 => ?_
 refine Ad ?_
 try refine Ac ?_
 refine Au (hq := by exact Aq) ?_
 refine Ar (hq := by exact Aq) ?_
 refine BC (hq := by exact Aq) ?_
 refine Ae (hq := by exact Aq) ?_
 refine A8 (hq := by exact Aq) ?_
 refine Ab ?_
 refine h13 _ ?_; clear h13
 refine Ao ?_
 try simp only [Af]
 rw [hr]
 refine A3 ?_
 ·(repeat' apply And.intro) <;> (first | (first | rfl | trivial | omega | exact Or.inl rfl | (rw [List.take_of_length_le (by simp [rows])]; done) | (simp [rows]; done)) | exact At)
 ·first | omega | exact absurd trivial hb12 | contradiction | (simp_all; done)
 have c1 := True.intro
 have hx := And.intro @e1 hx0
 refine Ad ?_
 try refine Ac ?_
 refine Ar (hq := by exact Aq) ?_
 have hc := Ah (E := (GJ.at_ 26)) (f := 49) (sp := Spec.pure EZ) rfl
 have hs := @EZ.eq_1
 refine BF (hq := by (first | (exact ⟨rfl, hl, rfl, hl2, hsm⟩) | exact Ay)) ?_
 refine B8 (hq := by exact Aq) ?_
 refine A8 (hq := by exact Aq) ?_
 refine Ab ?_
 have hx := hx0
 refine h3 _ ?_; clear h3
 refine Aa fun N14 h14 => ?_
 refine Ad ?_
 try refine Ac ?_
 refine Ar (hq := by exact Aq) ?_
 refine BC (hq := by exact Aq) ?_
 refine Am (hq := by exact Aq) ?_
 refine Ab ?_
 refine h14 _ ?_; clear h14
 refine Al (fun hb15 => ?_) (fun hb15 => ?_)
 ·first | omega | exact absurd trivial hb15 | contradiction | (simp_all; done)
 refine An ?_
 try simp only [Af]
 refine h2 _ ?_; clear h2
 refine Aa fun N16 h16 => ?_
 refine Aa fun N17 h17 => ?_
 have hx := And.intro @e3 hx0
 refine Ad ?_
 try refine Ac ?_
 refine Ar (hq := by exact Aq) ?_
 have hc := Ah (E := (GJ.at_ 26)) (f := 11) (sp := Spec.pure HH) rfl
 have hs := @HH.eq_1
 refine BF (hq := by (first | (exact ⟨rfl, hl3, hbg⟩) | exact Ay)) ?_
 refine B8 (hq := by exact Aq) ?_
 refine A8 (hq := by exact Aq) ?_
 refine Ab ?_
 have hx := hx0
 refine h17 _ ?_; clear h17
 refine Aa fun N18 h18 => ?_
 refine Ad ?_
 try refine Ac ?_
 refine Ar (hq := by exact Aq) ?_
 refine BC (hq := by exact Aq) ?_
 refine Am (hq := by exact Aq) ?_
 refine Ab ?_
 refine h18 _ ?_; clear h18
 refine Al (fun hb19 => ?_) (fun hb19 => ?_)
 ·first | omega | exact absurd trivial hb19 | contradiction | (simp_all; done)
 refine An ?_
 try simp only [Af]
 refine h16 _ ?_; clear h16
 refine Aa fun N20 h20 => ?_
 refine Ad ?_
 try refine Ac ?_
 iterate 2 refine Ar (hq := by exact Aq) ?_
 have hc := Ah (E := (GJ.at_ 26)) (f := 50) (sp := Spec.fresh X0) rfl
 have hs := @X0.eq_1
 refine BD (hq := by (first | (exact ⟨rfl, hl, rfl, hl2, hsm, e1, rfl, e3⟩) | exact Ay)) ?_
 refine BC (hq := by exact Aq) ?_
 refine Ae (hq := by exact Aq) ?_
 refine A8 (hq := by exact Aq) ?_
 refine Ab ?_
 refine h20 _ ?_; clear h20
 refine Ao ?_
 try simp only [Af]
 rw [hr]
 refine A3 ?_
 ·(repeat' apply And.intro) <;> (first | (first | rfl | trivial | omega | exact Or.inl rfl | (rw [List.take_of_length_le (by simp [rows])]; done) | (simp [rows]; done)) | exact At)
 cases hg

def WJ : Bo Tryz.prog := GJ.add 22 (Spec.pure Tm) QD (by kernel_rfl)

end Go.Proofs.YtmbjnkgpcbpclaaGreat
