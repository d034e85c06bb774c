/- Walks, printed by wip/gen/walk.py. -/
import Derived.Test.YtmbjnkgpcbpclaaGreatT58
import Derived.Test.YtmbjnkgpcbpclaaGreatV5
set_option linter.all false
set_option maxRecDepth 100000
set_option maxHeartbeats 4000000
namespace Go.Proofs.YtmbjnkgpcbpclaaGreat
open Go Go.Vc Go.RowKit
def L5 (ts : List Bs) (q : List Sn) : Int × Int := if (BV ts).1 ≠ 0 then BV ts else if (BR q).1 ≠ 0 then ((BR q).1, -2) else (0, 0)
def VY : List AV → Option (Prop × AV)
  | [.d (.sl xs), .agg [.d (.sl ys)]] => some (xs = rows eT (dT xs) ∧ (dT xs).length ≤ 9223372036854775807 ∧ (∀ s ∈ dT xs, s.length ≤ 9223372036854775807) ∧ ys = rows DL (C3 ys) ∧ (C3 ys).length ≤ 9223372036854775807 ∧ IG (C3 ys), .agg [.d (.int .i64 (L5 (dT xs) (C3 ys)).1), .d (.int .i64 (L5 (dT xs) (C3 ys)).2)])
  | _ => none
theorem Jv {ts : List Bs} (h : (BV ts).1 = 0) : BV ts = (0, 0) ∧ ts.length ≤ 20 ∧ ∀ s ∈ ts, s.length ≤ 400 := by
  unfold BV at h ⊢
  split at h
  · cases h
  · rename_i h1
    rw [if_neg h1]
    split at h
    · cases h
    · rename_i h2
      rw [if_neg h2]
      refine ⟨rfl, by omega, fun s hs => ?_⟩
      have : KK s = false := by
        cases hb : KK s with
        | false => rfl
        | true => exact absurd (List.any_eq_true.2 ⟨s, hs, hb⟩) h2
      have := of_decide_eq_false this
      omega
theorem LZ (ts : List Bs) (q : List Sn) : (∃ c i : Int, BV ts = (c, i) ∧ c ≠ 0 ∧ L5 ts q = (c, i)) ∨ (BV ts = (0, 0) ∧ ∃ c i : Int, BR q = (c, i) ∧ c ≠ 0 ∧ L5 ts q = (c, -2)) ∨ (BV ts = (0, 0) ∧ BR q = (0, 0) ∧ L5 ts q = (0, 0)) := by
  unfold L5
  by_cases h : (BV ts).1 = 0
  · rw [if_neg (by simpa using h)]
    by_cases h2 : BR q = (0, 0)
    · exact .inr (.inr ⟨(Jv h).1, h2, if_neg (by simp [h2])⟩)
    · exact .inr (.inl ⟨(Jv h).1, _, _, rfl, HI h2, if_pos (HI h2)⟩)
  · exact .inl ⟨_, _, rfl, h, if_pos h⟩

theorem PL : A5 Tryz.prog 31 (Spec.pure VY) := by
 refine A7 (HK.at_ 26) Tryz.func31 rfl rfl rfl ?_
 intro args p r hg hp
 unfold VY at hg
 split at hg
 rename_i xs ys
 simp only [Option.some.injEq, Prod.mk.injEq] at hg
 obtain ⟨rfl, rfl⟩ := hg
 obtain ⟨he, hl, hsm, he2, hl2, hbg⟩ := hp
 generalize dT xs = ts at *
 generalize C3 ys = q at *
 subst he he2
 have hT : (HK).X = T := rfl
 have hx0 := And.intro @EC (And.intro @A0 (And.intro @It (And.intro @AX (And.intro @Cu (And.intro @Ct @Tryz.results31)))))
 have hx := hx0
 refine ⟨by rfl, ?_⟩
 intro F W0 hnp hmk
 refine Aa fun N1 h1 => ?_
 refine Ad ?_
 try refine Ac ?_
 refine FU ?_
 refine B8 ?_
 refine Ab ?_
 refine h1 _ ?_; clear h1
 refine Aa fun N2 h2 => ?_
 refine Aa fun N3 h3 => ?_
 rcases LZ ts q with ⟨c, i, e1, e2, e3⟩ | ⟨e1, c, i, e2, e3, e4⟩ | ⟨e1, e2, e3⟩
 have c1 : (c = 0) = False := eq_false e2
 have hr := e3
 have hv2 := True.intro
 have hx := And.intro @e1 hx0
 refine Ad ?_
 try refine Ac ?_
 refine Ae ?_
 have hc := Ah (E := (HK.at_ 26)) (f := 25) (sp := Spec.pure Du) rfl
 have hs := @Du.eq_1
 refine Jw ?_
 refine Ae ?_
 iterate 2 refine DH ?_
 iterate 2 refine B8 ?_
 iterate 2 refine A8 ?_
 refine Ab ?_
 have hx := hx0
 refine h3 _ ?_; clear h3
 refine Aa fun N4 h4 => ?_
 have hx := And.intro @c1 hx0
 refine Ad ?_
 try refine Ac ?_
 refine Ar ?_
 refine BC ?_
 refine Am ?_
 refine Ab ?_
 have hx := hx0
 refine h4 _ ?_; clear h4
 refine Al (fun hb5 => ?_) (fun hb5 => ?_)
 refine Aa fun N6 h6 => ?_
 refine Ad ?_
 try refine Ac ?_
 refine Ar ?_
 refine A8 ?_
 refine Ab ?_
 refine h6 _ ?_; clear h6
 refine Ao ?_
 try simp only [Af]
 rw [hr]
 refine A3 ?_
 exact At
 ·first | omega | exact absurd trivial hb5 | contradiction | (simp_all; done)
 have c1 : (c = 0) = False := eq_false e3
 have hr := e4
 have hv2 := e2
 have hx := And.intro @e1 hx0
 refine Ad ?_
 try refine Ac ?_
 refine Ae ?_
 have hc := Ah (E := (HK.at_ 26)) (f := 25) (sp := Spec.pure Du) rfl
 have hs := @Du.eq_1
 refine Jw ?_
 refine Ae ?_
 iterate 2 refine DH ?_
 iterate 2 refine B8 ?_
 iterate 2 refine A8 ?_
 refine Ab ?_
 have hx := hx0
 refine h3 _ ?_; clear h3
 refine Aa fun N7 h7 => ?_
 have hx := And.intro @c1 hx0
 refine Ad ?_
 try refine Ac ?_
 refine Ar ?_
 refine BC ?_
 refine Am ?_
 refine Ab ?_
 have hx := hx0
 refine h7 _ ?_; clear h7
 refine Al (fun hb8 => ?_) (fun hb8 => ?_)
 ·first | omega | exact absurd trivial hb8 | contradiction | (simp_all; done)
 refine An ?_
 try simp only [Af]
 refine h2 _ ?_; clear h2
 refine Aa fun N9 h9 => ?_
 refine Aa fun N10 h10 => ?_
 have hx := And.intro @hv2 hx0
 refine Ad ?_
 try refine Ac ?_
 refine Ar ?_
 have hc := Ah (E := (HK.at_ 26)) (f := 11) (sp := Spec.pure HH) rfl
 have hs := @HH.eq_1
 refine BF (hq := by (first | (exact ⟨trivial, hl2, hbg⟩) | exact Ay)) ?_
 refine B8 ?_
 refine A8 ?_
 refine Ab ?_
 have hx := hx0
 refine h10 _ ?_; clear h10
 refine Aa fun N11 h11 => ?_
 have hx := And.intro @c1 hx0
 refine Ad ?_
 try refine Ac ?_
 refine Ar ?_
 refine BC ?_
 refine Am ?_
 refine Ab ?_
 have hx := hx0
 refine h11 _ ?_; clear h11
 refine Al (fun hb12 => ?_) (fun hb12 => ?_)
 refine Aa fun N13 h13 => ?_
 refine Ad ?_
 try refine Ac ?_
 refine Au ?_
 refine Ar ?_
 refine BC ?_
 refine A8 ?_
 refine Ab ?_
 refine h13 _ ?_; clear h13
 refine Ao ?_
 try simp only [Af]
 rw [hr]
 refine A3 ?_
 exact At
 ·first | omega | exact absurd trivial hb12 | contradiction | (simp_all; done)
 have c1 := True.intro
 have hr := e3
 have hv2 := e2
 have hx := And.intro @e1 hx0
 refine Ad ?_
 try refine Ac ?_
 refine Ae ?_
 have hc := Ah (E := (HK.at_ 26)) (f := 25) (sp := Spec.pure Du) rfl
 have hs := @Du.eq_1
 refine Jw ?_
 refine Ae ?_
 iterate 2 refine DH ?_
 iterate 2 refine B8 ?_
 iterate 2 refine A8 ?_
 refine Ab ?_
 have hx := hx0
 refine h3 _ ?_; clear h3
 refine Aa fun N14 h14 => ?_
 have hx := And.intro @c1 hx0
 refine Ad ?_
 try refine Ac ?_
 refine Ar ?_
 refine BC ?_
 refine Am ?_
 refine Ab ?_
 have hx := hx0
 refine h14 _ ?_; clear h14
 refine Al (fun hb15 => ?_) (fun hb15 => ?_)
 ·first | omega | exact absurd trivial hb15 | contradiction | (simp_all; done)
 refine An ?_
 try simp only [Af]
 refine h2 _ ?_; clear h2
 refine Aa fun N16 h16 => ?_
 refine Aa fun N17 h17 => ?_
 have hx := And.intro @hv2 hx0
 refine Ad ?_
 try refine Ac ?_
 refine Ar ?_
 have hc := Ah (E := (HK.at_ 26)) (f := 11) (sp := Spec.pure HH) rfl
 have hs := @HH.eq_1
 refine BF (hq := by (first | (exact ⟨trivial, hl2, hbg⟩) | exact Ay)) ?_
 refine B8 ?_
 refine A8 ?_
 refine Ab ?_
 have hx := hx0
 refine h17 _ ?_; clear h17
 refine Aa fun N18 h18 => ?_
 have hx := And.intro @c1 hx0
 refine Ad ?_
 try refine Ac ?_
 refine Ar ?_
 refine BC ?_
 refine Am ?_
 refine Ab ?_
 have hx := hx0
 refine h18 _ ?_; clear h18
 refine Al (fun hb19 => ?_) (fun hb19 => ?_)
 ·first | omega | exact absurd trivial hb19 | contradiction | (simp_all; done)
 refine An ?_
 try simp only [Af]
 refine h16 _ ?_; clear h16
 refine Aa fun N20 h20 => ?_
 refine Ad ?_
 try refine Ac ?_
 refine BC ?_
 refine A8 ?_
 refine Ab ?_
 refine h20 _ ?_; clear h20
 refine Ao ?_
 try simp only [Af]
 rw [hr]
 refine A3 ?_
 exact At
 cases hg

def JH : Bo Tryz.prog := HK.add 31 (Spec.pure VY) PL (by kernel_rfl)
end Go.Proofs.YtmbjnkgpcbpclaaGreat
