/- Walks, printed by wip/gen/walk.py. -/
import Derived.Test.YtmbjnkgpcbpclaaGreatT16
import Derived.Test.YtmbjnkgpcbpclaaGreatV5
set_option linter.all false
set_option maxRecDepth 100000
set_option maxHeartbeats 4000000
namespace Go.Proofs.YtmbjnkgpcbpclaaGreat
open Go Go.Vc Go.RowKit
theorem Vs (P : List AM) : dG (rows eP P) = P.map vP := by rw [Dy, KS]
theorem Ss (P : List AM) (g : Bs) : Ck (P.map vP) g = Ck P g := U4 (fun t => D.sl (rows eI t)) P g
theorem OJ (P : List AM) (g : Bs) : Db (P.map vP) g = Db P g := by unfold Db; rw [List.map_map]; rfl
theorem DO {P : List AM} (h : C7 P) : C7 (P.map vP) := by unfold C7 at *; rw [List.pairwise_map]; exact h
theorem UJ (P : List AM) (g : Bs) (x : Int) : Hd (Db P g) ((Ck P g : Nat) : Int) P x = !RU P g x := rfl
theorem Cp (ts : List Int) (P : List AM) (s : Bs) (k : Nat) : IR (Hd (Db P (gr s k)) ((Ck P (gr s k) : Nat) : Int) P) (Dl ts P s k) = Dl ts P s (k + 1) := by
  rw [Ns]; unfold IR; apply List.filter_congr; intro x _; rw [UJ, Bool.not_not]
theorem Ec {P : List AM} {g : Bs} (hs : C7 P) (h : Db P g = true) : Ck P g < P.length := by obtain ⟨t, ht⟩ := Ga hs h; exact (List.getElem?_eq_some_iff.1 ht).1
def Nt : List AV → Option (Prop × AV)
  | [.agg [.d (.sl xs), .d (.sl ps)], .d (.str s)] => some (xs = rows eI (dI xs) ∧ (dI xs).length ≤ 9223372036854775807 ∧ ps = rows eP (dP ps) ∧ (dP ps).length ≤ 9223372036854775807 ∧ Fo (dP ps) ∧ s.length ≤ 9223372036854775807,
      .tup [.d (.sl (rows eI (DR (dI xs) (dP ps) s))), .agg [.d (.int .i64 (Dt (dI xs) (dP ps) s).1), .d (.int .i64 (Dt (dI xs) (dP ps) s).2)]])
  | _ => none

theorem LP : A5 Tryz.prog 75 (Spec.pure Nt) := by
 refine A7 (Cz.at_ 47) Tryz.func75 rfl rfl rfl ?_
 intro args p r hg hp
 unfold Nt at hg
 split at hg
 rename_i xs ps u
 simp only [Option.some.injEq, Prod.mk.injEq] at hg
 obtain ⟨rfl, rfl⟩ := hg
 obtain ⟨he, hl, he2, hl2, hsm, hsl⟩ := hp
 generalize dI xs = l at *
 generalize dP ps = P at *
 subst he he2
 have hT : (Cz).X = T := rfl
 have hx0 := And.intro @EB (And.intro @AJ (And.intro @Cu (And.intro @Ct @Tryz.results75)))
 have hx := hx0
 refine ⟨by rfl, ?_⟩
 intro F W0 hnp hmk
 refine Aa fun N1 h1 => ?_
 refine Ad ?_
 try refine Ac ?_
 refine FU ?_
 refine Ae ?_
 refine B8 ?_
 refine Ab ?_
 refine h1 _ ?_; clear h1
 refine Aa fun N2 h2 => ?_
 refine Aa fun N3 h3 => ?_
 have hx := And.intro @B6 hx0
 refine Ad ?_
 try refine Ac ?_
 refine Ar ?_
 have hc := Ah (E := (Cz.at_ 47)) (f := 49) (sp := Spec.pure EZ) rfl
 have hs := @EZ.eq_1
 refine BF ?_
 refine B8 ?_
 refine A8 ?_
 refine Ab ?_
 have hx := hx0
 refine h3 _ ?_; clear h3
 refine Aa fun N4 h4 => ?_
 rcases Lz l P with hvx | hvx
 have hz1 : (Ca l P).1 = 0 := by rw [hvx]
 have hz2 : (Ca l P).2 = 0 := by rw [hvx]
 have hv := Ov hz1
 have hlen20 := hv.tlen
 have hpl := hv.plen
 refine Ad ?_
 try refine Ac ?_
 refine Ar ?_
 refine BC ?_
 refine Am ?_
 refine Ab ?_
 refine h4 _ ?_; clear h4
 refine Al (fun hb5 => ?_) (fun hb5 => ?_)
 exact absurd (And.intro hz1 hz2) (by have := hb5; simpa using this)
 refine An ?_
 try simp only [Af]
 refine h2 _ ?_; clear h2
 refine Aa fun N6 h6 => ?_
 refine Aa fun N7 h7 => ?_
 refine Ad ?_
 try refine Ac ?_
 refine Ae ?_
 refine Bm ?_
 refine Am ?_
 refine Ab ?_
 refine h7 _ ?_; clear h7
 refine Al (fun hb8 => ?_) (fun hb8 => ?_)
 refine Aa fun N9 h9 => ?_
 refine Ad ?_
 try refine Ac ?_
 refine BC ?_
 refine Ae ?_
 refine A8 ?_
 refine Ab ?_
 refine h9 _ ?_; clear h9
 refine Ao ?_
 try simp only [Af]
 have hr : Dt l P u = (10, -1) := by unfold Dt; rw [if_neg (by rw [hz1]; simp), if_pos (by have := hb8; omega)]
 have hr2 : DR l P u = [] := by unfold DR; rw [hr]; rfl
 rw [hr, hr2]
 refine A3 ?_
 exact At
 refine An ?_
 try simp only [Af]
 refine h6 _ ?_; clear h6
 refine Aa fun N10 h10 => ?_
 refine Ad ?_
 try refine Ac ?_
 refine Au ?_
 refine Ar ?_
 have hc := Ah (E := (Cz.at_ 47)) (f := 76) (sp := Spec.fresh (Fc 3)) rfl
 have hs := @Fc.eq_1
 refine BD (hq := by (first | (exact ⟨of_eq_true (BB l), by omega⟩) | exact Ay)) ?_
 refine Ae ?_
 refine Ab ?_
 refine h10 _ ?_; clear h10
 refine Aa fun N11 h11 => ?_
 refine Aa fun N12 h12 => ?_
 refine Ad ?_
 try refine Ac ?_
 refine Ae ?_
 refine Bm ?_
 iterate 2 refine Am ?_
 refine Ae ?_
 refine Ab ?_
 refine h12 _ ?_; clear h12
 refine Aw ?_
 refine A9 (σ := Nat) (fun s => (fun i => i ≤ u.length - 2) s)
  (fun s => (fun i => [(1, .d (.str u)), (2, .ptr 0 0 0), (5, .ptr 1 0 0), (7, .sl 2 0 (Dl l P u i).length), (27, .d (.int .i64 ((u.length : Int) - 3 + 1))), (28, .d (.int .i64 (i : Nat)))]) s)
  (fun s => (fun i => [some (.one 49 [.d (.sl (rows eI l)), .d (.sl (rows eP P))]), some (.one 29 [.d (.int .i64 0), .d (.int .i64 0)]), some (.vec 3 1 (rows eI (Dl l P u i)))]) s) (fun s => (fun i => u.length - i) s) hnp 0 ?_ [some 0, some 1, some 3] ?_ ?_
 dsimp only
 omega
 dsimp only
 refine ⟨by rfl, ?_, ?_⟩
 refine Aj ?_
 ·(repeat' apply And.intro) <;> (first | (first | rfl | trivial | (rw [Is]; done)) | exact At)
 refine Aj ?_
 ·(repeat' apply And.intro) <;> (first | (first | rfl | trivial | (rw [Is]; done)) | exact At)
 rintro i hinv N13 h13
 dsimp only at hinv ⊢
 have i1 := hinv
 have hcl := Hw l P u i
 refine Aa fun N14 h14 => ?_
 refine Ad ?_
 try refine Ac ?_
 refine Am ?_
 refine Ab ?_
 refine h14 _ ?_; clear h14
 refine Aa fun N15 h15 => ?_
 refine Al (fun hb16 => ?_) (fun hb16 => ?_)
 have hi3 : i + 3 ≤ u.length := by have := hb16; omega
 have hgr : List.take (((i : Int) + 3).toNat - i) (u.drop i) = gr u i := by unfold gr; congr 1; omega
 refine An ?_
 try simp only [Af]
 refine h15 _ ?_; clear h15
 refine Aa fun N17 h17 => ?_
 refine Aw ?_
 refine Aa fun N18 h18 => ?_
 refine Ad ?_
 try refine Ac ?_
 iterate 2 refine Ae ?_
 refine Ab ?_
 refine h18 _ ?_; clear h18
 refine Aa fun N19 h19 => ?_
 have hx := And.intro @hgr (And.intro @Vs (And.intro @Ss (And.intro @OJ hx0)))
 refine Fs [] (.seq [0, 1, 2, 3, 4, 5] (.alt 6 (.seq [7, 8, 9] (.alt 10 (.seq [11, 12, 13] .nil) (.alt 11 (.seq [10, 12, 13] .nil) .nil))) (.alt 10 (.alt 6 (.seq [7, 8, 9, 11, 12, 13] .nil) (.alt 11 (.seq [6, 7, 8, 9, 12, 13] .nil) .nil)) (.alt 11 (.alt 6 (.seq [7, 8, 9, 10, 12, 13] .nil) (.alt 10 (.seq [6, 7, 8, 9, 12, 13] .nil) .nil)) .nil)))) Gm (by kernel_rfl) ?_
 refine Bb ?_
 simp only [Ak, Ai]
 try refine Ac ?_
 refine Ar ?_
 iterate 3 refine Ae ?_
 refine Am ?_
 refine DI ?_
 refine Ab ?_
 refine AN ?_ ?_
 simp only [Ak, Ai]
 try refine Ac ?_
 have hc := Ah (E := (Cz.at_ 47)) (f := 78) (sp := Spec.pure CE) rfl
 have hs := @CE.eq_1
 refine BF (hq := by (first | (exact ⟨Dy P, DO hv.good.sort, by rw [List.length_map]; omega⟩) | exact Ay)) ?_
 refine Ab ?_
 refine Bb ?_
 simp only [Ak, Ai]
 try refine Ac ?_
 refine Ae ?_
 iterate 2 refine DH ?_
 refine Ab ?_
 refine AN ?_ ?_
 simp only [Ak, Ai]
 try refine Ac ?_
 refine B8 ?_
 refine Ab ?_
 refine Bb ?_
 simp only [Ak, Ai]
 try refine Ac ?_
 refine B8 ?_
 iterate 2 refine A8 ?_
 refine Ab ?_
 refine B9 ?_
 have hx := hx0
 refine h19 _ ?_; clear h19
 have hx := And.intro @B6 (And.intro @Cp hx0)
 refine Ad ?_
 try refine Ac ?_
 refine Ae ?_
 refine GF ?_
 have hc := Ah (E := (Cz.at_ 47)) (f := 57) (sp := Spec.gen C4) rfl
 have hs := @C4.eq_1
 refine BD (hq := by (first | (exact ⟨by omega, hsm, fun hb => ⟨by omega, by have := Ec hv.good.sort hb; omega⟩⟩) | exact Ay)) ?_
 refine Ae ?_
 refine Ab ?_
 have hx := hx0
 refine h17 _ ?_; clear h17
 refine Ad ?_
 try refine Ac ?_
 refine Am ?_
 refine Ae ?_
 refine Ab ?_
 refine h13 _ ⟨i + 1, ?_, ?_, [some 0, some 1, some 2], ?_⟩
 dsimp only
 omega
 dsimp only
 omega
 dsimp only
 refine ⟨by rfl, ?_, ?_⟩
 refine Aj ?_
 exact At
 refine Aj ?_
 exact At
 refine AN ?_ ?_
 simp only [Ak, Ai]
 try refine Ac ?_
 refine B8 ?_
 refine Ab ?_
 refine Bb ?_
 simp only [Ak, Ai]
 try refine Ac ?_
 refine B8 ?_
 iterate 2 refine A8 ?_
 refine Ab ?_
 refine B9 ?_
 have hx := hx0
 refine h19 _ ?_; clear h19
 have hx := And.intro @B6 (And.intro @Cp hx0)
 refine Ad ?_
 try refine Ac ?_
 refine Ae ?_
 refine GF ?_
 have hc := Ah (E := (Cz.at_ 47)) (f := 57) (sp := Spec.gen C4) rfl
 have hs := @C4.eq_1
 refine BD (hq := by (first | (exact ⟨by omega, hsm, fun hb => ⟨by omega, by have := Ec hv.good.sort hb; omega⟩⟩) | exact Ay)) ?_
 refine Ae ?_
 refine Ab ?_
 have hx := hx0
 refine h17 _ ?_; clear h17
 refine Ad ?_
 try refine Ac ?_
 refine Am ?_
 refine Ae ?_
 refine Ab ?_
 refine h13 _ ⟨i + 1, ?_, ?_, [some 0, some 1, some 2], ?_⟩
 dsimp only
 omega
 dsimp only
 omega
 dsimp only
 refine ⟨by rfl, ?_, ?_⟩
 refine Aj ?_
 exact At
 refine Aj ?_
 exact At
 exact Cl
 refine AN ?_ ?_
 simp only [Ak, Ai]
 try refine Ac ?_
 refine B8 ?_
 refine Ab ?_
 refine AN ?_ ?_
 simp only [Ak, Ai]
 try refine Ac ?_
 have hc := Ah (E := (Cz.at_ 47)) (f := 78) (sp := Spec.pure CE) rfl
 have hs := @CE.eq_1
 refine BF (hq := by (first | (exact ⟨Dy P, DO hv.good.sort, by rw [List.length_map]; omega⟩) | exact Ay)) ?_
 refine Ab ?_
 refine Bb ?_
 simp only [Ak, Ai]
 try refine Ac ?_
 refine Ae ?_
 iterate 2 refine DH ?_
 refine B8 ?_
 iterate 2 refine A8 ?_
 refine Ab ?_
 refine B9 ?_
 have hx := hx0
 refine h19 _ ?_; clear h19
 have hx := And.intro @B6 (And.intro @Cp hx0)
 refine Ad ?_
 try refine Ac ?_
 refine Ae ?_
 refine GF ?_
 have hc := Ah (E := (Cz.at_ 47)) (f := 57) (sp := Spec.gen C4) rfl
 have hs := @C4.eq_1
 refine BD (hq := by (first | (exact ⟨by omega, hsm, fun hb => ⟨by omega, by have := Ec hv.good.sort hb; omega⟩⟩) | exact Ay)) ?_
 refine Ae ?_
 refine Ab ?_
 have hx := hx0
 refine h17 _ ?_; clear h17
 refine Ad ?_
 try refine Ac ?_
 refine Am ?_
 refine Ae ?_
 refine Ab ?_
 refine h13 _ ⟨i + 1, ?_, ?_, [some 0, some 1, some 2], ?_⟩
 dsimp only
 omega
 dsimp only
 omega
 dsimp only
 refine ⟨by rfl, ?_, ?_⟩
 refine Aj ?_
 exact At
 refine Aj ?_
 exact At
 refine AN ?_ ?_
 simp only [Ak, Ai]
 try refine Ac ?_
 refine B8 ?_
 refine Ab ?_
 refine Bb ?_
 simp only [Ak, Ai]
 try refine Ac ?_
 have hc := Ah (E := (Cz.at_ 47)) (f := 78) (sp := Spec.pure CE) rfl
 have hs := @CE.eq_1
 refine BF (hq := by (first | (exact ⟨Dy P, DO hv.good.sort, by rw [List.length_map]; omega⟩) | exact Ay)) ?_
 refine Ae ?_
 iterate 2 refine DH ?_
 iterate 2 refine A8 ?_
 refine Ab ?_
 refine B9 ?_
 have hx := hx0
 refine h19 _ ?_; clear h19
 have hx := And.intro @B6 (And.intro @Cp hx0)
 refine Ad ?_
 try refine Ac ?_
 refine Ae ?_
 refine GF ?_
 have hc := Ah (E := (Cz.at_ 47)) (f := 57) (sp := Spec.gen C4) rfl
 have hs := @C4.eq_1
 refine BD (hq := by (first | (exact ⟨by omega, hsm, fun hb => ⟨by omega, by have := Ec hv.good.sort hb; omega⟩⟩) | exact Ay)) ?_
 refine Ae ?_
 refine Ab ?_
 have hx := hx0
 refine h17 _ ?_; clear h17
 refine Ad ?_
 try refine Ac ?_
 refine Am ?_
 refine Ae ?_
 refine Ab ?_
 refine h13 _ ⟨i + 1, ?_, ?_, [some 0, some 1, some 2], ?_⟩
 dsimp only
 omega
 dsimp only
 omega
 dsimp only
 refine ⟨by rfl, ?_, ?_⟩
 refine Aj ?_
 exact At
 refine Aj ?_
 exact At
 exact Cl
 refine AN ?_ ?_
 simp only [Ak, Ai]
 try refine Ac ?_
 refine B8 ?_
 refine Ab ?_
 refine AN ?_ ?_
 simp only [Ak, Ai]
 try refine Ac ?_
 have hc := Ah (E := (Cz.at_ 47)) (f := 78) (sp := Spec.pure CE) rfl
 have hs := @CE.eq_1
 refine BF (hq := by (first | (exact ⟨Dy P, DO hv.good.sort, by rw [List.length_map]; omega⟩) | exact Ay)) ?_
 refine Ab ?_
 refine Bb ?_
 simp only [Ak, Ai]
 try refine Ac ?_
 refine Ae ?_
 iterate 2 refine DH ?_
 refine B8 ?_
 iterate 2 refine A8 ?_
 refine Ab ?_
 refine B9 ?_
 have hx := hx0
 refine h19 _ ?_; clear h19
 have hx := And.intro @B6 (And.intro @Cp hx0)
 refine Ad ?_
 try refine Ac ?_
 refine Ae ?_
 refine GF ?_
 have hc := Ah (E := (Cz.at_ 47)) (f := 57) (sp := Spec.gen C4) rfl
 have hs := @C4.eq_1
 refine BD (hq := by (first | (exact ⟨by omega, hsm, fun hb => ⟨by omega, by have := Ec hv.good.sort hb; omega⟩⟩) | exact Ay)) ?_
 refine Ae ?_
 refine Ab ?_
 have hx := hx0
 refine h17 _ ?_; clear h17
 refine Ad ?_
 try refine Ac ?_
 refine Am ?_
 refine Ae ?_
 refine Ab ?_
 refine h13 _ ⟨i + 1, ?_, ?_, [some 0, some 1, some 2], ?_⟩
 dsimp only
 omega
 dsimp only
 omega
 dsimp only
 refine ⟨by rfl, ?_, ?_⟩
 refine Aj ?_
 exact At
 refine Aj ?_
 exact At
 refine AN ?_ ?_
 simp only [Ak, Ai]
 try refine Ac ?_
 refine B8 ?_
 refine Ab ?_
 refine Bb ?_
 simp only [Ak, Ai]
 try refine Ac ?_
 have hc := Ah (E := (Cz.at_ 47)) (f := 78) (sp := Spec.pure CE) rfl
 have hs := @CE.eq_1
 refine BF (hq := by (first | (exact ⟨Dy P, DO hv.good.sort, by rw [List.length_map]; omega⟩) | exact Ay)) ?_
 refine Ae ?_
 iterate 2 refine DH ?_
 iterate 2 refine A8 ?_
 refine Ab ?_
 refine B9 ?_
 have hx := hx0
 refine h19 _ ?_; clear h19
 have hx := And.intro @B6 (And.intro @Cp hx0)
 refine Ad ?_
 try refine Ac ?_
 refine Ae ?_
 refine GF ?_
 have hc := Ah (E := (Cz.at_ 47)) (f := 57) (sp := Spec.gen C4) rfl
 have hs := @C4.eq_1
 refine BD (hq := by (first | (exact ⟨by omega, hsm, fun hb => ⟨by omega, by have := Ec hv.good.sort hb; omega⟩⟩) | exact Ay)) ?_
 refine Ae ?_
 refine Ab ?_
 have hx := hx0
 refine h17 _ ?_; clear h17
 refine Ad ?_
 try refine Ac ?_
 refine Am ?_
 refine Ae ?_
 refine Ab ?_
 refine h13 _ ⟨i + 1, ?_, ?_, [some 0, some 1, some 2], ?_⟩
 dsimp only
 omega
 dsimp only
 omega
 dsimp only
 refine ⟨by rfl, ?_, ?_⟩
 refine Aj ?_
 exact At
 refine Aj ?_
 exact At
 exact Cl
 exact Cl
 have hie : i = u.length - 2 := by have := hb16; omega
 subst hie
 refine Be ?_
 simp only [Af, Nat.reduceEqDiff, reduceIte, eq_self]
 refine h11 _ ?_; clear h11
 refine Aa fun N20 h20 => ?_
 refine Ad ?_
 try refine Ac ?_
 refine Ae ?_
 refine BC ?_
 refine Ae ?_
 refine A8 ?_
 refine Ab ?_
 refine h20 _ ?_; clear h20
 refine Ao ?_
 try simp only [Af]
 have hr : Dt l P u = (0, 0) := by unfold Dt; rw [if_neg (by rw [hz1]; simp), if_neg (by have := hb8; omega)]
 have hr2 : DR l P u = Dl l P u (u.length - 2) := by unfold DR; rw [hr]; rfl
 rw [hr, hr2]
 refine A3 ?_
 ·(repeat' apply And.intro) <;> (first | (first | rfl | exact Or.inl rfl | exact Or.inr rfl | trivial | (simp; done) | (rw [List.drop_zero, AH, List.take_length]; done)) | exact At)
 have hz1 := hvx
 have hz2 := hvx
 refine Ad ?_
 try refine Ac ?_
 refine Ar ?_
 refine BC ?_
 refine Am ?_
 refine Ab ?_
 refine h4 _ ?_; clear h4
 refine Al (fun hb21 => ?_) (fun hb21 => ?_)
 refine Aa fun N22 h22 => ?_
 refine Ad ?_
 try refine Ac ?_
 refine Ar ?_
 refine Ae ?_
 refine A8 ?_
 refine Ab ?_
 refine h22 _ ?_; clear h22
 refine Ao ?_
 try simp only [Af]
 have hr : Dt l P u = Ca l P := by unfold Dt; rw [if_pos hz1]
 have hr2 : DR l P u = [] := by unfold DR; rw [hr, if_pos hz1]
 rw [hr, hr2]
 refine A3 ?_
 exact At
 exact absurd (show (Ca l P).1 = 0 by have := hb21; first | exact this.1 | exact (Classical.not_not.1 this).1 | (simp at this; exact this.1)) hz1
 cases hg

def TW : Bo Tryz.prog := Cz.add 75 (Spec.pure Nt) LP (by kernel_rfl)
end Go.Proofs.YtmbjnkgpcbpclaaGreat
