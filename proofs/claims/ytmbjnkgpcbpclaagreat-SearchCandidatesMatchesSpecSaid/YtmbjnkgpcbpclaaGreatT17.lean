/- Walks, printed by wip/gen/walk.py. -/
import Derived.Test.YtmbjnkgpcbpclaaGreatT16
import Derived.Test.YtmbjnkgpcbpclaaGreatV5
set_option linter.all false
set_option maxRecDepth 100000
set_option maxHeartbeats 4000000
namespace Go.Proofs.YtmbjnkgpcbpclaaGreat
open Go Go.Vc Go.RowKit
theorem Wo (P : List AU) : dG (rows eP P) = P.map vP := by rw [DD, Lv]
theorem Tm (P : List AU) (g : Bs) : C5 (P.map vP) g = C5 P g := Vz (fun t => D.sl (rows eI t)) P g
theorem P6 (P : List AU) (g : Bs) : Ds (P.map vP) g = Ds P g := by unfold Ds; rw [List.map_map]; rfl
theorem Eb {P : List AU} (h : CJ P) : CJ (P.map vP) := by unfold CJ at *; rw [List.pairwise_map]; exact h
theorem VG (P : List AU) (g : Bs) (x : Int) : Hw (Ds P g) ((C5 P g : Nat) : Int) P x = !MO P g x := rfl
theorem C0 (ts : List Int) (P : List AU) (s : Bs) (k : Nat) : Jr (Hw (Ds P (gr s k)) ((C5 P (gr s k) : Nat) : Int) P) (CA ts P s k) = CA ts P s (k + 1) := by
  rw [Oh]; unfold Jr; apply List.filter_congr; intro x _; rw [VG, Bool.not_not]
theorem Es {P : List AU} {g : Bs} (hs : CJ P) (h : Ds P g = true) : C5 P g < P.length := by obtain ⟨t, ht⟩ := Hn hs h; exact (List.getElem?_eq_some_iff.1 ht).1
def Oi : List AV → Option (Prop × AV)
  | [.agg [.d (.sl xs), .d (.sl ps)], .d (.str s)] => some (xs = rows eI (dI xs) ∧ (dI xs).length ≤ 9223372036854775807 ∧ ps = rows eP (dP ps) ∧ (dP ps).length ≤ 9223372036854775807 ∧ EE (dP ps) ∧ s.length ≤ 9223372036854775807,
      .tup [.d (.sl (rows eI (Ef (dI xs) (dP ps) s))), .agg [.d (.int .i64 (D8 (dI xs) (dP ps) s).1), .d (.int .i64 (D8 (dI xs) (dP ps) s).2)]])
  | _ => none

theorem M5 : A1 Tryz.prog 75 (Spec.pure Oi) := by
 refine Az (CB.at_ 47) Tryz.func75 rfl rfl rfl ?_
 intro args p r hg hp
 unfold Oi at hg
 split at hg
 rename_i xs ps u
 simp only [Option.some.injEq, Prod.mk.injEq] at hg
 obtain ⟨rfl, rfl⟩ := hg
 obtain ⟨he, hl, he2, hl2, hsm, hsl⟩ := hp
 generalize dI xs = l at *
 generalize dP ps = P at *
 subst he he2
 have hT : (CB).X = T := rfl
 have hx0 := And.intro @DB (And.intro @AA (And.intro @Ci (And.intro @Ch @Tryz.results75)))
 have hx := hx0
 refine ⟨by rfl, ?_⟩
 intro F W0 hnp hmk
 refine Aa fun N1 h1 => ?_
 refine Ad ?_
 try refine Ac ?_
 refine EX ?_
 refine Ae ?_
 refine Bw ?_
 refine Ab ?_
 refine h1 _ ?_; clear h1
 refine Aa fun N2 h2 => ?_
 refine Aa fun N3 h3 => ?_
 have hx := And.intro @B4 hx0
 refine Ad ?_
 try refine Ac ?_
 refine Ap ?_
 have hc := Ag (E := (CB.at_ 47)) (f := 49) (sp := Spec.pure Dt) rfl
 have hs := @Dt.eq_1
 refine AS ?_
 refine Bw ?_
 refine A4 ?_
 refine Ab ?_
 have hx := hx0
 refine h3 _ ?_; clear h3
 refine Aa fun N4 h4 => ?_
 rcases LZ l P with hvx | hvx
 have hz1 : (Br l P).1 = 0 := by rw [hvx]
 have hz2 : (Br l P).2 = 0 := by rw [hvx]
 have hv := JS hz1
 have hlen20 := hv.tlen
 have hpl := hv.plen
 refine Ad ?_
 try refine Ac ?_
 refine Ap ?_
 refine BL ?_
 refine Al ?_
 refine Ab ?_
 refine h4 _ ?_; clear h4
 refine Ai (fun hb5 => ?_) (fun hb5 => ?_)
 exact absurd (And.intro hz1 hz2) (by have := hb5; simpa using this)
 refine Am ?_
 try simp only [Af]
 refine h2 _ ?_; clear h2
 refine Aa fun N6 h6 => ?_
 refine Aa fun N7 h7 => ?_
 refine Ad ?_
 try refine Ac ?_
 refine Ae ?_
 refine AZ ?_
 refine Al ?_
 refine Ab ?_
 refine h7 _ ?_; clear h7
 refine Ai (fun hb8 => ?_) (fun hb8 => ?_)
 refine Aa fun N9 h9 => ?_
 refine Ad ?_
 try refine Ac ?_
 refine BL ?_
 refine Ae ?_
 refine A4 ?_
 refine Ab ?_
 refine h9 _ ?_; clear h9
 refine An ?_
 try simp only [Af]
 have hr : D8 l P u = (10, -1) := by unfold D8; rw [if_neg (by rw [hz1]; simp), if_pos (by have := hb8; omega)]
 have hr2 : Ef l P u = [] := by unfold Ef; rw [hr]; rfl
 rw [hr, hr2]
 refine Ax ?_
 exact As
 refine Am ?_
 try simp only [Af]
 refine h6 _ ?_; clear h6
 refine Aa fun N10 h10 => ?_
 refine Ad ?_
 try refine Ac ?_
 refine At ?_
 refine Ap ?_
 have hc := Ag (E := (CB.at_ 47)) (f := 76) (sp := Spec.fresh (Fq 3)) rfl
 have hs := @Fq.eq_1
 refine B8 (hq := by (first | (exact ⟨of_eq_true (BM l), by omega⟩) | exact A3)) ?_
 refine Ae ?_
 refine Ab ?_
 refine h10 _ ?_; clear h10
 refine Aa fun N11 h11 => ?_
 refine Aa fun N12 h12 => ?_
 refine Ad ?_
 try refine Ac ?_
 refine Ae ?_
 refine AZ ?_
 iterate 2 refine Al ?_
 refine Ae ?_
 refine Ab ?_
 refine h12 _ ?_; clear h12
 refine Au ?_
 refine A0 (σ := Nat) (fun s => (fun i => i ≤ u.length - 2) s)
  (fun s => (fun i => [(1, .d (.str u)), (2, .ptr 0 0 0), (5, .ptr 1 0 0), (7, .sl 2 0 (CA l P u i).length), (27, .d (.int .i64 ((u.length : Int) - 3 + 1))), (28, .d (.int .i64 (i : Nat)))]) s)
  (fun s => (fun i => [some (.one 49 [.d (.sl (rows eI l)), .d (.sl (rows eP P))]), some (.one 29 [.d (.int .i64 0), .d (.int .i64 0)]), some (.vec 3 1 (rows eI (CA l P u i)))]) s) (fun s => (fun i => u.length - i) s) hnp 0 ?_ [some 0, some 1, some 3] ?_ ?_
 dsimp only
 omega
 dsimp only
 refine ⟨by rfl, ?_, ?_⟩
 refine Aj ?_
 ·(repeat' apply And.intro) <;> (first | (first | rfl | trivial | (rw [IH]; done)) | exact As)
 refine Aj ?_
 ·(repeat' apply And.intro) <;> (first | (first | rfl | trivial | (rw [IH]; done)) | exact As)
 rintro i hinv N13 h13
 dsimp only at hinv ⊢
 have i1 := hinv
 have hcl := Gr l P u i
 refine Aa fun N14 h14 => ?_
 refine Ad ?_
 try refine Ac ?_
 refine Al ?_
 refine Ab ?_
 refine h14 _ ?_; clear h14
 refine Aa fun N15 h15 => ?_
 refine Ai (fun hb16 => ?_) (fun hb16 => ?_)
 have hi3 : i + 3 ≤ u.length := by have := hb16; omega
 have hgr : List.take (((i : Int) + 3).toNat - i) (u.drop i) = gr u i := by unfold gr; congr 1; omega
 refine Am ?_
 try simp only [Af]
 refine h15 _ ?_; clear h15
 refine Aa fun N17 h17 => ?_
 refine Au ?_
 refine Aa fun N18 h18 => ?_
 refine Ad ?_
 try refine Ac ?_
 iterate 2 refine Ae ?_
 refine Ab ?_
 refine h18 _ ?_; clear h18
 refine Aa fun N19 h19 => ?_
 have hx := And.intro @hgr (And.intro @Wo (And.intro @Tm (And.intro @P6 hx0)))
 refine G1 [] (.seq [0, 1, 2, 3, 4, 5] (.alt 6 (.seq [7, 8, 9] (.alt 10 (.seq [11, 12, 13] .nil) (.alt 11 (.seq [10, 12, 13] .nil) .nil))) (.alt 10 (.alt 6 (.seq [7, 8, 9, 11, 12, 13] .nil) (.alt 11 (.seq [6, 7, 8, 9, 12, 13] .nil) .nil)) (.alt 11 (.alt 6 (.seq [7, 8, 9, 10, 12, 13] .nil) (.alt 10 (.seq [6, 7, 8, 9, 12, 13] .nil) .nil)) .nil)))) Fw (by kernel_rfl) ?_
 refine Bu ?_
 simp only [Ao, Ak]
 try refine Ac ?_
 refine Ap ?_
 iterate 3 refine Ae ?_
 refine Al ?_
 refine DL ?_
 refine Ab ?_
 refine AX ?_ ?_
 simp only [Ao, Ak]
 try refine Ac ?_
 have hc := Ag (E := (CB.at_ 47)) (f := 78) (sp := Spec.pure CT) rfl
 have hs := @CT.eq_1
 refine AS (hq := by (first | (exact ⟨DD P, Eb hv.good.sort, by rw [List.length_map]; omega⟩) | exact A3)) ?_
 refine Ab ?_
 refine Bu ?_
 simp only [Ao, Ak]
 try refine Ac ?_
 refine Ae ?_
 iterate 2 refine Dz ?_
 refine Ab ?_
 refine AX ?_ ?_
 simp only [Ao, Ak]
 try refine Ac ?_
 refine Bw ?_
 refine Ab ?_
 refine Bu ?_
 simp only [Ao, Ak]
 try refine Ac ?_
 refine Bw ?_
 iterate 2 refine A4 ?_
 refine Ab ?_
 refine BO ?_
 have hx := hx0
 refine h19 _ ?_; clear h19
 have hx := And.intro @B4 (And.intro @C0 hx0)
 refine Ad ?_
 try refine Ac ?_
 refine Ae ?_
 refine GW ?_
 have hc := Ag (E := (CB.at_ 47)) (f := 57) (sp := Spec.gen CE) rfl
 have hs := @CE.eq_1
 refine B8 (hq := by (first | (exact ⟨by omega, hsm, fun hb => ⟨by omega, by have := Es hv.good.sort hb; omega⟩⟩) | exact A3)) ?_
 refine Ae ?_
 refine Ab ?_
 have hx := hx0
 refine h17 _ ?_; clear h17
 refine Ad ?_
 try refine Ac ?_
 refine Al ?_
 refine Ae ?_
 refine Ab ?_
 refine h13 _ ⟨i + 1, ?_, ?_, [some 0, some 1, some 2], ?_⟩
 dsimp only
 omega
 dsimp only
 omega
 dsimp only
 refine ⟨by rfl, ?_, ?_⟩
 refine Aj ?_
 exact As
 refine Aj ?_
 exact As
 refine AX ?_ ?_
 simp only [Ao, Ak]
 try refine Ac ?_
 refine Bw ?_
 refine Ab ?_
 refine Bu ?_
 simp only [Ao, Ak]
 try refine Ac ?_
 refine Bw ?_
 iterate 2 refine A4 ?_
 refine Ab ?_
 refine BO ?_
 have hx := hx0
 refine h19 _ ?_; clear h19
 have hx := And.intro @B4 (And.intro @C0 hx0)
 refine Ad ?_
 try refine Ac ?_
 refine Ae ?_
 refine GW ?_
 have hc := Ag (E := (CB.at_ 47)) (f := 57) (sp := Spec.gen CE) rfl
 have hs := @CE.eq_1
 refine B8 (hq := by (first | (exact ⟨by omega, hsm, fun hb => ⟨by omega, by have := Es hv.good.sort hb; omega⟩⟩) | exact A3)) ?_
 refine Ae ?_
 refine Ab ?_
 have hx := hx0
 refine h17 _ ?_; clear h17
 refine Ad ?_
 try refine Ac ?_
 refine Al ?_
 refine Ae ?_
 refine Ab ?_
 refine h13 _ ⟨i + 1, ?_, ?_, [some 0, some 1, some 2], ?_⟩
 dsimp only
 omega
 dsimp only
 omega
 dsimp only
 refine ⟨by rfl, ?_, ?_⟩
 refine Aj ?_
 exact As
 refine Aj ?_
 exact As
 exact C8
 refine AX ?_ ?_
 simp only [Ao, Ak]
 try refine Ac ?_
 refine Bw ?_
 refine Ab ?_
 refine AX ?_ ?_
 simp only [Ao, Ak]
 try refine Ac ?_
 have hc := Ag (E := (CB.at_ 47)) (f := 78) (sp := Spec.pure CT) rfl
 have hs := @CT.eq_1
 refine AS (hq := by (first | (exact ⟨DD P, Eb hv.good.sort, by rw [List.length_map]; omega⟩) | exact A3)) ?_
 refine Ab ?_
 refine Bu ?_
 simp only [Ao, Ak]
 try refine Ac ?_
 refine Ae ?_
 iterate 2 refine Dz ?_
 refine Bw ?_
 iterate 2 refine A4 ?_
 refine Ab ?_
 refine BO ?_
 have hx := hx0
 refine h19 _ ?_; clear h19
 have hx := And.intro @B4 (And.intro @C0 hx0)
 refine Ad ?_
 try refine Ac ?_
 refine Ae ?_
 refine GW ?_
 have hc := Ag (E := (CB.at_ 47)) (f := 57) (sp := Spec.gen CE) rfl
 have hs := @CE.eq_1
 refine B8 (hq := by (first | (exact ⟨by omega, hsm, fun hb => ⟨by omega, by have := Es hv.good.sort hb; omega⟩⟩) | exact A3)) ?_
 refine Ae ?_
 refine Ab ?_
 have hx := hx0
 refine h17 _ ?_; clear h17
 refine Ad ?_
 try refine Ac ?_
 refine Al ?_
 refine Ae ?_
 refine Ab ?_
 refine h13 _ ⟨i + 1, ?_, ?_, [some 0, some 1, some 2], ?_⟩
 dsimp only
 omega
 dsimp only
 omega
 dsimp only
 refine ⟨by rfl, ?_, ?_⟩
 refine Aj ?_
 exact As
 refine Aj ?_
 exact As
 refine AX ?_ ?_
 simp only [Ao, Ak]
 try refine Ac ?_
 refine Bw ?_
 refine Ab ?_
 refine Bu ?_
 simp only [Ao, Ak]
 try refine Ac ?_
 have hc := Ag (E := (CB.at_ 47)) (f := 78) (sp := Spec.pure CT) rfl
 have hs := @CT.eq_1
 refine AS (hq := by (first | (exact ⟨DD P, Eb hv.good.sort, by rw [List.length_map]; omega⟩) | exact A3)) ?_
 refine Ae ?_
 iterate 2 refine Dz ?_
 iterate 2 refine A4 ?_
 refine Ab ?_
 refine BO ?_
 have hx := hx0
 refine h19 _ ?_; clear h19
 have hx := And.intro @B4 (And.intro @C0 hx0)
 refine Ad ?_
 try refine Ac ?_
 refine Ae ?_
 refine GW ?_
 have hc := Ag (E := (CB.at_ 47)) (f := 57) (sp := Spec.gen CE) rfl
 have hs := @CE.eq_1
 refine B8 (hq := by (first | (exact ⟨by omega, hsm, fun hb => ⟨by omega, by have := Es hv.good.sort hb; omega⟩⟩) | exact A3)) ?_
 refine Ae ?_
 refine Ab ?_
 have hx := hx0
 refine h17 _ ?_; clear h17
 refine Ad ?_
 try refine Ac ?_
 refine Al ?_
 refine Ae ?_
 refine Ab ?_
 refine h13 _ ⟨i + 1, ?_, ?_, [some 0, some 1, some 2], ?_⟩
 dsimp only
 omega
 dsimp only
 omega
 dsimp only
 refine ⟨by rfl, ?_, ?_⟩
 refine Aj ?_
 exact As
 refine Aj ?_
 exact As
 exact C8
 refine AX ?_ ?_
 simp only [Ao, Ak]
 try refine Ac ?_
 refine Bw ?_
 refine Ab ?_
 refine AX ?_ ?_
 simp only [Ao, Ak]
 try refine Ac ?_
 have hc := Ag (E := (CB.at_ 47)) (f := 78) (sp := Spec.pure CT) rfl
 have hs := @CT.eq_1
 refine AS (hq := by (first | (exact ⟨DD P, Eb hv.good.sort, by rw [List.length_map]; omega⟩) | exact A3)) ?_
 refine Ab ?_
 refine Bu ?_
 simp only [Ao, Ak]
 try refine Ac ?_
 refine Ae ?_
 iterate 2 refine Dz ?_
 refine Bw ?_
 iterate 2 refine A4 ?_
 refine Ab ?_
 refine BO ?_
 have hx := hx0
 refine h19 _ ?_; clear h19
 have hx := And.intro @B4 (And.intro @C0 hx0)
 refine Ad ?_
 try refine Ac ?_
 refine Ae ?_
 refine GW ?_
 have hc := Ag (E := (CB.at_ 47)) (f := 57) (sp := Spec.gen CE) rfl
 have hs := @CE.eq_1
 refine B8 (hq := by (first | (exact ⟨by omega, hsm, fun hb => ⟨by omega, by have := Es hv.good.sort hb; omega⟩⟩) | exact A3)) ?_
 refine Ae ?_
 refine Ab ?_
 have hx := hx0
 refine h17 _ ?_; clear h17
 refine Ad ?_
 try refine Ac ?_
 refine Al ?_
 refine Ae ?_
 refine Ab ?_
 refine h13 _ ⟨i + 1, ?_, ?_, [some 0, some 1, some 2], ?_⟩
 dsimp only
 omega
 dsimp only
 omega
 dsimp only
 refine ⟨by rfl, ?_, ?_⟩
 refine Aj ?_
 exact As
 refine Aj ?_
 exact As
 refine AX ?_ ?_
 simp only [Ao, Ak]
 try refine Ac ?_
 refine Bw ?_
 refine Ab ?_
 refine Bu ?_
 simp only [Ao, Ak]
 try refine Ac ?_
 have hc := Ag (E := (CB.at_ 47)) (f := 78) (sp := Spec.pure CT) rfl
 have hs := @CT.eq_1
 refine AS (hq := by (first | (exact ⟨DD P, Eb hv.good.sort, by rw [List.length_map]; omega⟩) | exact A3)) ?_
 refine Ae ?_
 iterate 2 refine Dz ?_
 iterate 2 refine A4 ?_
 refine Ab ?_
 refine BO ?_
 have hx := hx0
 refine h19 _ ?_; clear h19
 have hx := And.intro @B4 (And.intro @C0 hx0)
 refine Ad ?_
 try refine Ac ?_
 refine Ae ?_
 refine GW ?_
 have hc := Ag (E := (CB.at_ 47)) (f := 57) (sp := Spec.gen CE) rfl
 have hs := @CE.eq_1
 refine B8 (hq := by (first | (exact ⟨by omega, hsm, fun hb => ⟨by omega, by have := Es hv.good.sort hb; omega⟩⟩) | exact A3)) ?_
 refine Ae ?_
 refine Ab ?_
 have hx := hx0
 refine h17 _ ?_; clear h17
 refine Ad ?_
 try refine Ac ?_
 refine Al ?_
 refine Ae ?_
 refine Ab ?_
 refine h13 _ ⟨i + 1, ?_, ?_, [some 0, some 1, some 2], ?_⟩
 dsimp only
 omega
 dsimp only
 omega
 dsimp only
 refine ⟨by rfl, ?_, ?_⟩
 refine Aj ?_
 exact As
 refine Aj ?_
 exact As
 exact C8
 exact C8
 have hie : i = u.length - 2 := by have := hb16; omega
 subst hie
 refine AF ?_
 simp only [Af, Nat.reduceEqDiff, reduceIte, eq_self]
 refine h11 _ ?_; clear h11
 refine Aa fun N20 h20 => ?_
 refine Ad ?_
 try refine Ac ?_
 refine Ae ?_
 refine BL ?_
 refine Ae ?_
 refine A4 ?_
 refine Ab ?_
 refine h20 _ ?_; clear h20
 refine An ?_
 try simp only [Af]
 have hr : D8 l P u = (0, 0) := by unfold D8; rw [if_neg (by rw [hz1]; simp), if_neg (by have := hb8; omega)]
 have hr2 : Ef l P u = CA l P u (u.length - 2) := by unfold Ef; rw [hr]; rfl
 rw [hr, hr2]
 refine Ax ?_
 ·(repeat' apply And.intro) <;> (first | (first | rfl | exact Or.inl rfl | exact Or.inr rfl | trivial | (simp; done) | (rw [List.drop_zero, AO, List.take_length]; done)) | exact As)
 have hz1 := hvx
 have hz2 := hvx
 refine Ad ?_
 try refine Ac ?_
 refine Ap ?_
 refine BL ?_
 refine Al ?_
 refine Ab ?_
 refine h4 _ ?_; clear h4
 refine Ai (fun hb21 => ?_) (fun hb21 => ?_)
 refine Aa fun N22 h22 => ?_
 refine Ad ?_
 try refine Ac ?_
 refine Ap ?_
 refine Ae ?_
 refine A4 ?_
 refine Ab ?_
 refine h22 _ ?_; clear h22
 refine An ?_
 try simp only [Af]
 have hr : D8 l P u = Br l P := by unfold D8; rw [if_pos hz1]
 have hr2 : Ef l P u = [] := by unfold Ef; rw [hr, if_pos hz1]
 rw [hr, hr2]
 refine Ax ?_
 exact As
 exact absurd (show (Br l P).1 = 0 by have := hb21; first | exact this.1 | exact (Classical.not_not.1 this).1 | (simp at this; exact this.1)) hz1
 cases hg

def Gp : Bn Tryz.prog := CB.add 75 (Spec.pure Oi) M5 (by kernel_rfl)
end Go.Proofs.YtmbjnkgpcbpclaaGreat
