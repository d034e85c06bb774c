/- Walks, printed by wip/gen/walk.py. -/
import Derived.Test.YtmbjnkgpcbpclaaGreatT112
import Derived.Test.YtmbjnkgpcbpclaaGreatV5
set_option linter.all false
set_option maxRecDepth 100000
set_option maxHeartbeats 4000000
namespace Go.Proofs.YtmbjnkgpcbpclaaGreat
open Go Go.Vc Go.RowKit
theorem T7 : ∀ n, A1 Tryz.prog 24 (Spec.pure (Hq n))
  | 0 => Is fun a p r h hp => by
    unfold Hq at h
    split at h
    · simp only [Option.some.injEq, Prod.mk.injEq] at h
      obtain ⟨rfl, _⟩ := h
      obtain ⟨_, _, _, _, _, h0, _, h1⟩ := hp
      omega
    · cases h
  | n + 1 => T9 n (T7 n)
theorem Tz {l : List Int} {P : List AU} {q : List Sn} (h : 1 ≤ q.length) : (LC l P q).length ≤ l.length := by
  unfold LC
  obtain ⟨s, hs⟩ := BG (l := Cy l P q q.length) (i := q.length - 1) (by rw [Eh]; omega)
  rw [List.getD_eq_getElem?_getD, hs]
  exact Ga s (AE hs)
def LA : List AV → Option (Prop × AV)
  | [.agg [.d (.sl xs), .d (.sl ps)], .agg [.d (.sl ys)]] => some (xs = rows eI (dI xs) ∧ (dI xs).length ≤ 9223372036854775807 ∧ ps = rows eP (dP ps) ∧ (dP ps).length ≤ 9223372036854775807 ∧ EE (dP ps) ∧ ys = rows DR (Cz ys) ∧ (Cz ys).length ≤ 9223372036854775807 ∧ JZ (Cz ys), .d (.bool true))
  | _ => none

def E7 : Bn Tryz.prog := Wk.add 24 (Spec.pure (Hq 41)) (T7 41) (by kernel_rfl)

theorem MY : A1 Tryz.prog 6 (Spec.pure LA) := by
 refine Az (E7.at_ 56) Tryz.func6 rfl rfl rfl ?_
 intro args p r hg hp
 unfold LA at hg
 split at hg
 rename_i xs ps ys
 simp only [Option.some.injEq, Prod.mk.injEq] at hg
 obtain ⟨rfl, rfl⟩ := hg
 obtain ⟨he, hl, he2, hl2, hsm, he3, hl3, hbg⟩ := hp
 generalize dI xs = l at *
 generalize dP ps = P at *
 generalize Cz ys = q at *
 subst he he2 he3
 have hT : (E7).X = T := rfl
 have hx0 := And.intro @DB (And.intro @BQ (And.intro @AA (And.intro @B4 (And.intro @AY (And.intro @VP (And.intro @Ci (And.intro @Ch @Tryz.results6)))))))
 have hx := hx0
 refine ⟨by rfl, ?_⟩
 intro F W0 hnp hmk
 refine Aa fun N1 h1 => ?_
 refine Ad ?_
 try refine Ac ?_
 iterate 2 refine EX (hq := by exact Aq) ?_
 refine Ae (hq := by exact Aq) ?_
 refine Ab ?_
 refine h1 _ ?_; clear h1
 refine Aa fun N2 h2 => ?_
 refine Aa fun N3 h3 => ?_
 refine Ad ?_
 try refine Ac ?_
 have hc := Ag (E := (E7.at_ 56)) (f := 9) (sp := Spec.pure XM) rfl
 have hs := @XM.eq_1
 refine AS (hq := by exact Aq) ?_
 refine Gl (hq := by exact Aq) ?_
 refine Ab ?_
 refine h3 _ ?_; clear h3
 refine Ai (fun hb4 => ?_) (fun hb4 => ?_)
 ·first | omega | exact absurd trivial hb4 | contradiction | (simp_all; done)
 refine Am ?_
 try simp only [Af]
 refine h2 _ ?_; clear h2
 refine Aa fun N5 h5 => ?_
 rcases KR l P q with ⟨c, k, e1, e2, hr⟩ | ⟨e1, c, k, e3, e2, hr⟩ | ⟨e1, e3, hr⟩
 have c1 : (c = 0) = False := eq_false e2
 have e3 := True.intro
 have hqm := True.intro
 have hx := And.intro @hr hx0
 refine Ad ?_
 try refine Ac ?_
 iterate 2 refine Ap (hq := by exact Aq) ?_
 have hc := Ag (E := (E7.at_ 56)) (f := 22) (sp := Spec.pure LW) rfl
 have hs := @LW.eq_1
 refine JP (hq := by (first | (exact ⟨rfl, hl, rfl, hl2, hsm, rfl, hl3, hbg⟩) | exact A3)) ?_
 refine Ae (hq := by exact Aq) ?_
 iterate 2 refine Dz (hq := by exact Aq) ?_
 refine Bw (hq := by exact Aq) ?_
 refine Ae (hq := by exact Aq) ?_
 refine A4 (hq := by exact Aq) ?_
 refine Ab ?_
 have hx := hx0
 refine h5 _ ?_; clear h5
 refine Aa fun N6 h6 => ?_
 have hx := And.intro @e1 hx0
 refine Ad ?_
 try refine Ac ?_
 refine Ap (hq := by exact Aq) ?_
 have hc := Ag (E := (E7.at_ 56)) (f := 23) (sp := Spec.pure Dt) rfl
 have hs := @Dt.eq_1
 refine AS (hq := by (first | (exact ⟨rfl, hl, rfl, hl2, hsm⟩) | exact A3)) ?_
 refine Bw (hq := by exact Aq) ?_
 refine A4 (hq := by exact Aq) ?_
 refine Ab ?_
 have hx := hx0
 refine h6 _ ?_; clear h6
 refine Aa fun N7 h7 => ?_
 refine Aa fun N8 h8 => ?_
 have hx := And.intro @c1 (And.intro @e3 hx0)
 refine Ad ?_
 try refine Ac ?_
 refine At (hq := by exact Aq) ?_
 refine Ap (hq := by exact Aq) ?_
 refine Al (hq := by exact Aq) ?_
 refine Ae (hq := by exact Aq) ?_
 refine Ar ?_ ?_
 focus (exact AP)
 refine Ar ?_ ?_
 focus (exact AP)
 refine Ar ?_ ?_
 focus (exact AP)
 refine Ar ?_ ?_
 focus (exact AP)
 refine A7 (hq := by exact Aq) ?_
 refine Ab ?_
 have hx := hx0
 refine h8 _ ?_; clear h8
 refine Ai (fun hb9 => ?_) (fun hb9 => ?_)
 ·first | omega | exact absurd trivial hb9 | contradiction | (simp_all; done)
 refine Am ?_
 try simp only [Af]
 refine h7 _ ?_; clear h7
 refine Aa fun N10 h10 => ?_
 refine Aa fun N11 h11 => ?_
 have hx := And.intro @c1 hx0
 refine Ad ?_
 try refine Ac ?_
 refine At (hq := by exact Aq) ?_
 refine Ap (hq := by exact Aq) ?_
 refine Al (hq := by exact Aq) ?_
 refine Ab ?_
 have hx := hx0
 refine h11 _ ?_; clear h11
 refine Ai (fun hb12 => ?_) (fun hb12 => ?_)
 refine Aa fun N13 h13 => ?_
 refine Ad ?_
 try refine Ac ?_
 iterate 2 refine Ap (hq := by exact Aq) ?_
 refine Al (hq := by exact Aq) ?_
 refine Ae (hq := by exact Aq) ?_
 refine Cl (hq := by exact Aq) ?_
 refine JR (hq := by exact Aq) ?_
 refine DW (hq := by exact Aq) ?_
 refine A7 (hq := by exact Aq) ?_
 refine Ae (hq := by exact Aq) ?_
 refine Ab ?_
 refine h13 _ ?_; clear h13
 refine An ?_
 try simp only [Af]
 refine Ax ?_
 ·(repeat' apply And.intro) <;> (first | (first | rfl | trivial | (simp; done)) | exact As)
 ·first | omega | exact absurd trivial hb12 | contradiction | (simp_all; done)
 have c1 : (c = 0) = False := eq_false e2
 have hqm := True.intro
 have hx := And.intro @hr hx0
 refine Ad ?_
 try refine Ac ?_
 iterate 2 refine Ap (hq := by exact Aq) ?_
 have hc := Ag (E := (E7.at_ 56)) (f := 22) (sp := Spec.pure LW) rfl
 have hs := @LW.eq_1
 refine JP (hq := by (first | (exact ⟨rfl, hl, rfl, hl2, hsm, rfl, hl3, hbg⟩) | exact A3)) ?_
 refine Ae (hq := by exact Aq) ?_
 iterate 2 refine Dz (hq := by exact Aq) ?_
 refine Bw (hq := by exact Aq) ?_
 refine Ae (hq := by exact Aq) ?_
 refine A4 (hq := by exact Aq) ?_
 refine Ab ?_
 have hx := hx0
 refine h5 _ ?_; clear h5
 refine Aa fun N14 h14 => ?_
 have hx := And.intro @e1 hx0
 refine Ad ?_
 try refine Ac ?_
 refine Ap (hq := by exact Aq) ?_
 have hc := Ag (E := (E7.at_ 56)) (f := 23) (sp := Spec.pure Dt) rfl
 have hs := @Dt.eq_1
 refine AS (hq := by (first | (exact ⟨rfl, hl, rfl, hl2, hsm⟩) | exact A3)) ?_
 refine Bw (hq := by exact Aq) ?_
 refine A4 (hq := by exact Aq) ?_
 refine Ab ?_
 have hx := hx0
 refine h14 _ ?_; clear h14
 refine Aa fun N15 h15 => ?_
 refine Aa fun N16 h16 => ?_
 have hx := And.intro @c1 (And.intro @e3 hx0)
 refine Ad ?_
 try refine Ac ?_
 refine At (hq := by exact Aq) ?_
 refine Ap (hq := by exact Aq) ?_
 refine Al (hq := by exact Aq) ?_
 refine Ae (hq := by exact Aq) ?_
 refine CF (hq := by exact Aq) ?_
 have hc := Ag (E := (E7.at_ 56)) (f := 12) (sp := Spec.pure Hz) rfl
 have hs := @Hz.eq_1
 refine Kl (hq := by (first | (exact ⟨rfl, hl3, hbg⟩) | exact A3)) ?_
 refine CG (hq := by exact Aq) ?_
 refine DW (hq := by exact Aq) ?_
 refine A7 (hq := by exact Aq) ?_
 refine Ab ?_
 have hx := hx0
 refine h16 _ ?_; clear h16
 refine Ai (fun hb17 => ?_) (fun hb17 => ?_)
 have hx := And.intro @e3 hx0
 refine Ad ?_
 try refine Ac ?_
 refine Ap (hq := by exact Aq) ?_
 have hc := Ag (E := (E7.at_ 56)) (f := 12) (sp := Spec.pure Hz) rfl
 have hs := @Hz.eq_1
 refine AS (hq := by (first | (exact ⟨rfl, hl3, hbg⟩) | exact A3)) ?_
 refine At (hq := by exact Aq) ?_
 have hc := Ag (E := (E7.at_ 56)) (f := 21) (sp := Spec.pure AH) rfl
 have hs := @AH.eq_1
 refine AS (hq := by exact Aq) ?_
 refine A4 (hq := by exact Aq) ?_
 refine Ab ?_
 have hx := hx0
 refine h15 _ ?_; clear h15
 refine Aa fun N18 h18 => ?_
 refine Aa fun N19 h19 => ?_
 have hx := And.intro @c1 hx0
 refine Ad ?_
 try refine Ac ?_
 refine At (hq := by exact Aq) ?_
 refine Ap (hq := by exact Aq) ?_
 refine Al (hq := by exact Aq) ?_
 refine Ab ?_
 have hx := hx0
 refine h19 _ ?_; clear h19
 refine Ai (fun hb20 => ?_) (fun hb20 => ?_)
 refine Aa fun N21 h21 => ?_
 refine Ad ?_
 try refine Ac ?_
 iterate 2 refine Ap (hq := by exact Aq) ?_
 refine Al (hq := by exact Aq) ?_
 refine Ae (hq := by exact Aq) ?_
 refine Cl (hq := by exact Aq) ?_
 refine JR (hq := by exact Aq) ?_
 refine DW (hq := by exact Aq) ?_
 refine A7 (hq := by exact Aq) ?_
 refine Ae (hq := by exact Aq) ?_
 refine Ab ?_
 refine h21 _ ?_; clear h21
 refine An ?_
 try simp only [Af]
 refine Ax ?_
 ·(repeat' apply And.intro) <;> (first | (first | rfl | trivial | (simp; done)) | exact As)
 ·first | omega | exact absurd trivial hb20 | contradiction | (simp_all; done)
 ·first | omega | exact absurd trivial hb17 | contradiction | (simp_all; done)
 have c1 := True.intro
 obtain ⟨_, h1, h40, _⟩ := F7 e3
 have hvl := JS (show (Br l P).1 = 0 by rw [e1])
 have hlen20 := hvl.tlen
 have hml := Tz (l := l) (P := P) h1
 have hqm : ((q.length : Int) - 1).toNat = q.length - 1 := by omega
 have hmq : (Cy l P q q.length).getD (q.length - 1) [] = LC l P q := rfl
 have hx := And.intro @hr hx0
 refine Ad ?_
 try refine Ac ?_
 iterate 2 refine Ap (hq := by exact Aq) ?_
 have hc := Ag (E := (E7.at_ 56)) (f := 22) (sp := Spec.pure LW) rfl
 have hs := @LW.eq_1
 refine JP (hq := by (first | (exact ⟨rfl, hl, rfl, hl2, hsm, rfl, hl3, hbg⟩) | exact A3)) ?_
 refine Ae (hq := by exact Aq) ?_
 iterate 2 refine Dz (hq := by exact Aq) ?_
 refine Bw (hq := by exact Aq) ?_
 refine Ae (hq := by exact Aq) ?_
 refine A4 (hq := by exact Aq) ?_
 refine Ab ?_
 have hx := hx0
 refine h5 _ ?_; clear h5
 refine Aa fun N22 h22 => ?_
 have hx := And.intro @e1 hx0
 refine Ad ?_
 try refine Ac ?_
 refine Ap (hq := by exact Aq) ?_
 have hc := Ag (E := (E7.at_ 56)) (f := 23) (sp := Spec.pure Dt) rfl
 have hs := @Dt.eq_1
 refine AS (hq := by (first | (exact ⟨rfl, hl, rfl, hl2, hsm⟩) | exact A3)) ?_
 refine Bw (hq := by exact Aq) ?_
 refine A4 (hq := by exact Aq) ?_
 refine Ab ?_
 have hx := hx0
 refine h22 _ ?_; clear h22
 refine Aa fun N23 h23 => ?_
 refine Aa fun N24 h24 => ?_
 have hx := And.intro @c1 (And.intro @e3 hx0)
 refine Ad ?_
 try refine Ac ?_
 refine At (hq := by exact Aq) ?_
 refine Ap (hq := by exact Aq) ?_
 refine Al (hq := by exact Aq) ?_
 refine Ae (hq := by exact Aq) ?_
 refine CF (hq := by exact Aq) ?_
 have hc := Ag (E := (E7.at_ 56)) (f := 12) (sp := Spec.pure Hz) rfl
 have hs := @Hz.eq_1
 refine Kl (hq := by (first | (exact ⟨rfl, hl3, hbg⟩) | exact A3)) ?_
 refine CG (hq := by exact Aq) ?_
 refine DW (hq := by exact Aq) ?_
 refine A7 (hq := by exact Aq) ?_
 refine Ab ?_
 have hx := hx0
 refine h24 _ ?_; clear h24
 refine Ai (fun hb25 => ?_) (fun hb25 => ?_)
 ·first | omega | exact absurd trivial hb25 | contradiction | (simp_all; done)
 refine Am ?_
 try simp only [Af]
 refine h23 _ ?_; clear h23
 refine Aa fun N26 h26 => ?_
 refine Aa fun N27 h27 => ?_
 refine Ad ?_
 try refine Ac ?_
 refine At (hq := by exact Aq) ?_
 refine Ap (hq := by exact Aq) ?_
 refine Al (hq := by exact Aq) ?_
 refine Ab ?_
 refine h27 _ ?_; clear h27
 refine Ai (fun hb28 => ?_) (fun hb28 => ?_)
 ·first | omega | exact absurd trivial hb28 | contradiction | (simp_all; done)
 refine Am ?_
 try simp only [Af]
 refine h26 _ ?_; clear h26
 refine Aa fun N29 h29 => ?_
 have hx := And.intro @hqm (And.intro @hmq hx0)
 refine Ad ?_
 try refine Ac ?_
 refine At (hq := by exact Aq) ?_
 refine Ap (hq := by exact Aq) ?_
 refine Al (hq := by exact Aq) ?_
 refine Ae (hq := by exact Aq) ?_
 refine Cl (hq := by exact Aq) ?_
 iterate 2 refine CF (hq := by exact Aq) ?_
 refine CG (hq := by exact Aq) ?_
 refine CF (hq := by exact Aq) ?_
 refine JR (hq := by exact Aq) ?_
 refine DW (hq := by exact Aq) ?_
 have hc := Ag (E := (E7.at_ 56)) (f := 24) (sp := Spec.pure (Hq 41)) rfl
 have hs := @Hq.eq_1
 refine YT (hq := by (first | (exact ⟨rfl, rfl, e1, rfl, e3, by omega, by omega, by omega⟩) | exact A3)) ?_
 have hc := Ag (E := (E7.at_ 56)) (f := 14) (sp := Spec.pure Jw) rfl
 have hs := @Jw.eq_1
 refine Kl (hq := by (first | (exact ⟨rfl, rfl, by omega, by omega⟩) | exact A3)) ?_
 refine A7 (hq := by exact Aq) ?_
 refine Ae (hq := by exact Aq) ?_
 refine Ab ?_
 have hx := hx0
 refine h29 _ ?_; clear h29
 refine An ?_
 try simp only [Af]
 refine Ax ?_
 ·(repeat' apply And.intro) <;> (first | (first | rfl | trivial | (simp; done)) | exact As)
 cases hg
end Go.Proofs.YtmbjnkgpcbpclaaGreat
