/- Walks, printed by wip/gen/walk.py. -/
import Derived.Test.YtmbjnkgpcbpclaaGreatT110
import Derived.Test.YtmbjnkgpcbpclaaGreatV5
set_option linter.all false
set_option maxRecDepth 100000
set_option maxHeartbeats 4000000
namespace Go.Proofs.YtmbjnkgpcbpclaaGreat
open Go Go.Vc Go.RowKit
def X0 : Dr
  | [.agg [.d (.sl xs), .d (.sl ps)], .agg [.d (.sl ys)]], [] => some (xs = rows eI (dI xs) ∧ (dI xs).length ≤ 9223372036854775807 ∧ ps = rows eP (dP ps) ∧ (dP ps).length ≤ 9223372036854775807 ∧ Fo (dP ps) ∧ Ca (dI xs) (dP ps) = (0, 0) ∧ ys = rows DL (C3 ys) ∧ BR (C3 ys) = (0, 0), .sl 0 0 (Ib (dI xs) (dP ps) (C3 ys)).length, [some (.vec 3 1 (rows eI (Ib (dI xs) (dP ps) (C3 ys))))])
  | _, _ => none
theorem Uk {a : Int} (h : a = 2 ∨ a = 3) (t : Int) (x y : List Int) : (a = 2 ∧ decide (t ∈ x) = true ∧ decide (t ∈ y) = true) ∨ (a = 2 ∧ decide (t ∈ x) = true ∧ decide (t ∈ y) = false) ∨ (a = 2 ∧ decide (t ∈ x) = false ∧ True) ∨ (a = 3 ∧ decide (t ∈ x) = true ∧ True) ∨ (a = 3 ∧ decide (t ∈ x) = false ∧ True) := by
  rcases h with rfl | rfl <;> cases decide (t ∈ x) <;> cases decide (t ∈ y) <;> simp
theorem Xh (a b : Bool) : Lg 3 a b = (a || b) := rfl
theorem S0 (l : List Int) (kd : Int) (x y : List Int) : H7 l kd x y 0 = [] := rfl
theorem Tn {xs : List (List D)} {i : Nat} {x : List D} (h : xs[i]? = some x) : xs.set i x = xs := by
  obtain ⟨h1, h2⟩ := List.getElem?_eq_some_iff.1 h
  subst h2
  exact List.set_getElem_self h1
theorem HV {S : List (List Int)} {n i j : Nat} {x : List D} {s : List Int} (h : S[j]? = some s) (hne : i ≠ j) : ((D4 S n).set i x)[j]? = some [.sl (rows eI s)] := by
  rw [List.getElem?_set, if_neg hne]; exact T7 h
theorem HW {S : List (List Int)} {n i : Nat} {x : List D} (h : (D4 S n).length = n) (hi : i < n) : ((D4 S n).set i x)[i]? = some x := by
  rw [List.getElem?_set, if_pos rfl, if_pos (by omega)]

theorem QB : A5 Tryz.prog 50 (Spec.fresh X0) := by
 refine E7 (CS.at_ 107) Tryz.func50 rfl rfl rfl ?_
 intro args bl p r bf hg hp
 unfold X0 at hg
 split at hg
 rename_i xs ps ys
 simp only [Option.some.injEq, Prod.mk.injEq] at hg
 obtain ⟨rfl, rfl, rfl⟩ := hg
 obtain ⟨he, hl, he2, hl2, hsm, hvf, he3, hvq⟩ := hp
 generalize dI xs = l at *
 generalize dP ps = P at *
 generalize C3 ys = q at *
 subst he he2 he3
 have hvl := Ov (show (Ca l P).1 = 0 by rw [hvf])
 have hlen20 := hvl.tlen
 obtain ⟨_, h1, h40, _⟩ := EI hvq
 have hT : (CS).X = T := rfl
 have hx0 := And.intro @EB (And.intro @A0 (And.intro @AJ (And.intro @B6 (And.intro @AX (And.intro @Cu (And.intro @Ct (And.intro @IL @Tryz.results50)))))))
 have hx := hx0
 refine ⟨Nat.le_of_ble_eq_true rfl, ?_⟩
 intro F W0 M0 hnp hmk
 have hnp : AU.np = 0 := hnp
 refine Aa fun N1 h1 => ?_
 refine Ad ?_
 try refine Ac ?_
 iterate 2 refine FU (hq := by exact Aq) ?_
 refine Ae (hq := by exact Aq) ?_
 refine Ab ?_
 refine h1 _ ?_; clear h1
 refine Aa fun N2 h2 => ?_
 refine Ad ?_
 try refine Ac ?_
 refine Au (hq := by exact Aq) ?_
 refine Ar (hq := by exact Aq) ?_
 refine Bm (hq := by exact Aq) ?_
 refine AE (by rfl) (QH (by exact Da) (by exact CY) (by exact Da) (by exact CY) (by exact CZ) (by exact CZ) (by rfl) (by (first | (exact ⟨by omega, by omega, by omega, by omega⟩) | exact Ay)) ?_)
 try simp only [wB, eq_self, Nat.reduceEqDiff, reduceIte, wL, Int.toNat_natCast, Int.reduceToNat, Nat.reduceAdd, Nat.reduceMul, Nat.reduceSub, Nat.reduceLeDiff, hx]
 refine B8 (hq := by exact Aq) ?_
 refine A8 (hq := by exact Aq) ?_
 refine Ab ?_
 refine h2 _ ?_; clear h2
 refine Aa fun N3 h3 => ?_
 refine Aa fun N4 h4 => ?_
 refine HJ 3 1 rfl ?_
 simp only [List.cons_append, List.nil_append]
 refine Ad ?_
 try refine Ac ?_
 refine Au (hq := by exact Aq) ?_
 refine Ar (hq := by exact Aq) ?_
 refine Bm (hq := by exact Aq) ?_
 refine Ae (hq := by exact Aq) ?_
 refine Ab ?_
 refine h4 _ ?_; clear h4
 refine Aw ?_
 refine A9 (σ := Nat × Value) (fun s => (fun i v => i ≤ q.length) (s.1) (s.2))
  (fun s => (fun i v => [(2, .ptr 0 0 0), (3, .ptr 1 0 0), (5, .ptr 3 0 0), (16, .d (.sl (rows DL q))), (17, .d (.int .i64 (q.length : Nat))), (18, .d (.int .i64 (i : Nat)))]) (s.1) (s.2))
  (fun s => (fun i v => [some (.one 49 [.d (.sl (rows eI l)), .d (.sl (rows eP P))]), some (.one 25 [.d (.sl (rows DL q))]), some (.vec 27 1 (Q6 (Dg l P q i) q.length v)), some (.one 107 [.sl 2 0 q.length]), some (.ob (.bag 3 1 (Rw (Dg l P q i) v)))]) (s.1) (s.2)) (fun s => (fun i v => q.length - i) (s.1) (s.2)) hnp (0, FM) ?_ [some 0, some 1, some 2, some 3, some 4] ?_ ?_
 dsimp only
 omega
 dsimp only
 refine ⟨by rfl, ?_, ?_⟩
 refine Aj ?_
 ·(repeat' apply And.intro) <;> (first | (first | (with_reducible rfl) | rfl | trivial | omega) | exact At)
 refine Aj ?_
 ·(repeat' apply And.intro) <;> (first | (first | (with_reducible rfl) | rfl | trivial | omega) | exact At)
 rintro ⟨i, v⟩ hinv N5 h5
 dsimp only at hinv ⊢
 have i1 := hinv
 refine Aa fun N6 h6 => ?_
 refine Ad ?_
 try refine Ac ?_
 refine Am (hq := by exact Aq) ?_
 refine Ab ?_
 refine h6 _ ?_; clear h6
 refine Aa fun N7 h7 => ?_
 refine Al (fun hb8 => ?_) (fun hb8 => ?_)
 have hiq : i < q.length := by have := hb8; (try simp at this); omega
 obtain ⟨x, hxe⟩ := Cb (l := q) (i := i) hiq
 have hxd : q.getD i default = x := by rw [List.getD_eq_getElem?_getD, hxe]; rfl
 have hnext := Kl (l := l) (P := P) hxd
 have hSl := Ez l P q i
 have hSa := GZ (l := l) (P := P) (q := q) (i := i)
 have hok := EU hvq hiq hxd
 have hat := Oa hvq hiq hxd
 have htl : (D4 (Dg l P q i) q.length).length = q.length := Hj (by omega)
 have hti : (D4 (Dg l P q i) q.length)[i]? = some [.raw FM] := by
  have := T8 (S := (Dg l P q i)) (n := q.length) (by omega)
  rwa [hSl] at this
 have hset0 := Tn hti
 have hrec : ∀ v, Cs 1 ((D4 (Dg l P q i) q.length).set i [.raw v]) = True := fun v => eq_true (Q3 (Ky _ _))
 have hre0 : Cs 1 (D4 (Dg l P q i) q.length) = True := eq_true (Ky _ _)
 have hsl0 : ∀ v, ((D4 (Dg l P q i) q.length).set i [.raw v]).length = q.length := fun v => by rw [List.length_set]; exact htl
 obtain ⟨a, b, c, e⟩ := x
 dsimp only at hok hat
 refine An ?_
 try simp only [Af]
 refine h7 _ ?_; clear h7
 refine Aa fun N9 h9 => ?_
 refine Aw ?_
 refine Aa fun N10 h10 => ?_
 refine Ox 2 4 ((Dg l P q i).length - 1) rfl rfl rfl (by decide) (Tl (n := q.length) (by omega)) ?_
 simp only [AS, BI, List.set, List.cons_append, List.nil_append, List.mem_cons, List.not_mem_nil, or_false, Nat.reduceEqDiff, Nat.reduceAdd, reduceIte]
 have hx := And.intro @hxe (And.intro @DL.eq_1 hx0)
 refine Ad ?_
 try refine Ac ?_
 refine Ae (hq := by exact Aq) ?_
 refine Au (hq := by exact Aq) ?_
 refine Ar (hq := by exact Aq) ?_
 refine B8 (hq := by exact Aq) ?_
 refine Ae (hq := by exact Aq) ?_
 refine A8 (hq := by exact Aq) ?_
 refine Ab ?_
 have hx := hx0
 refine h10 _ ?_; clear h10
 refine Aa fun N11 h11 => ?_
 refine Ad ?_
 try refine Ac ?_
 refine GF (hq := by exact Aq) ?_
 refine Ae (hq := by exact Aq) ?_
 refine Ab ?_
 refine h11 _ ?_; clear h11
 refine Aa fun N12 h12 => ?_
 refine Aa fun N13 h13 => ?_
 refine Ad ?_
 try refine Ac ?_
 refine Au (hq := by exact Aq) ?_
 refine Ar (hq := by exact Aq) ?_
 refine Ab ?_
 refine h13 _ ?_; clear h13
 refine Aw ?_
 refine Aa fun N14 h14 => ?_
 refine Ad ?_
 try refine Ac ?_
 refine Am (hq := by exact Aq) ?_
 refine Ae (hq := by exact Aq) ?_
 refine Ab ?_
 refine h14 _ ?_; clear h14
 refine Al (fun hb15 => ?_) (fun hb15 => ?_)
 have hk1 : a = 1 := by have := hb15; (try simp at this); omega
 have hbl := Iw (hok.2.1 hk1)
 have hN := Wk (l := l) (P := P) (b := b) (c := c) (e := e) (S := (Dg l P q i)) hk1
 have hcf : Dt l P b = (0, 0) := by unfold Dt; rw [if_neg (by rw [hvf]; simp), if_neg (by omega)]
 have hcr : DR l P b = Dl l P b (b.length - 2) := by unfold DR; rw [hcf]; rfl
 refine Aa fun N16 h16 => ?_
 refine HJ 3 1 rfl ?_
 simp only [List.cons_append, List.nil_append]
 have hx := And.intro @hcr (And.intro @hcf hx0)
 refine Hk [75] Gm (by kernel_rfl) ?_
 try refine Ac ?_
 refine Ar (hq := by exact Aq) ?_
 refine Ae (hq := by exact Aq) ?_
 refine Ar (hq := by exact Aq) ?_
 refine Au (hq := by exact Aq) ?_
 refine Ar (hq := by exact Aq) ?_
 have hc := Ah (E := (CS.at_ 107)) (f := 75) (sp := Spec.fresh IK) rfl
 have hs := @IK.eq_1
 refine BD (hq := by (first | (exact ⟨rfl, by omega, rfl, by omega, hsm, by omega⟩) | exact Ay)) ?_
 refine Ae (hq := by exact Aq) ?_
 iterate 2 refine DH (hq := by exact Aq) ?_
 refine Au (hq := by exact Aq) ?_
 refine AE (by rfl) (D2 6 (by rfl) (by exact Da) (by exact CY) (by exact Da) (by exact CY) (by simp only [wB, eq_self, Nat.reduceEqDiff, reduceIte]; rfl) (by simp only [wB, eq_self, Nat.reduceEqDiff, reduceIte]; rfl) (by simp only [wB, eq_self, Nat.reduceEqDiff, reduceIte]; rfl) (by exact CZ) (by decide) (by decide) (by decide) hti (by first | exact Nat.le_refl _ | (simp [rows]; done) | exact Aq) fun v1 => ?_)
 try simp only [AS, BI, List.set, List.cons_append, List.nil_append, List.mem_cons, List.not_mem_nil, or_false, false_or, Nat.reduceEqDiff, Nat.reduceAdd, reduceIte, wB, eq_self, Nat.reduceEqDiff, reduceIte, wL, Int.toNat_natCast, Int.reduceToNat, Nat.reduceAdd, Nat.reduceMul, Nat.reduceSub, Nat.reduceLeDiff, hx]
 refine Ab ?_
 have hx := hx0
 refine h16 _ ?_; clear h16
 refine Be ?_
 simp only [Af, Nat.reduceEqDiff, reduceIte, eq_self]
 refine h9 _ ?_; clear h9
 refine Ad ?_
 try refine Ac ?_
 refine Am (hq := by exact Aq) ?_
 refine Ae (hq := by exact Aq) ?_
 refine Ab ?_
 refine h5 _ ⟨(i + 1, v1), ?_, ?_, [some 0, some 1, some 2, some 3, some 8], ?_⟩
 dsimp only
 omega
 dsimp only
 omega
 dsimp only
 refine ⟨by rfl, ?_, ?_⟩
 refine Aj ?_
 ·(repeat' apply And.intro) <;> (first | (first | (with_reducible rfl) | exact True.intro | trivial | omega | (rw [hnext, CW, hSl]; done) | (refine congrArg (OB.bag _ _) ?_; rw [hnext, BW, hN]; simp [rows]; done) | (refine congrArg (OB.bag _ _) ?_; rw [hnext, BW, hN]; done) | rfl) | exact At)
 refine Aj ?_
 ·(repeat' apply And.intro) <;> (first | (first | (with_reducible rfl) | exact True.intro | trivial | omega | (rw [hnext, CW, hSl]; done) | (refine congrArg (OB.bag _ _) ?_; rw [hnext, BW, hN]; simp [rows]; done) | (refine congrArg (OB.bag _ _) ?_; rw [hnext, BW, hN]; done) | rfl) | exact At)
 have hk1 : ¬a = 1 := by have := hb15; (try simp at this); omega
 refine Aa fun N17 h17 => ?_
 refine Ad ?_
 try refine Ac ?_
 refine Am (hq := by exact Aq) ?_
 refine Ae (hq := by exact Aq) ?_
 refine Ab ?_
 refine h17 _ ?_; clear h17
 refine Al (fun hb18 => ?_) (fun hb18 => ?_)
 have hk4 : a = 4 := by have := hb18; (try simp at this); omega
 have hN := Wm (l := l) (P := P) (b := b) (c := c) (e := e) (S := (Dg l P q i)) hk4
 refine Aa fun N19 h19 => ?_
 refine HJ 3 1 rfl ?_
 simp only [List.cons_append, List.nil_append]
 refine Hk [76] Gm (by kernel_rfl) ?_
 try refine Ac ?_
 refine Ar (hq := by exact Aq) ?_
 refine Ae (hq := by exact Aq) ?_
 refine Au (hq := by exact Aq) ?_
 refine Ar (hq := by exact Aq) ?_
 have hc := Ah (E := (CS.at_ 107)) (f := 76) (sp := Spec.fresh (Fc 3)) rfl
 have hs := @Fc.eq_1
 refine BD (hq := by (first | (exact ⟨of_eq_true (BB l), by rw [AZ]; omega⟩) | exact Ay)) ?_
 refine Au (hq := by exact Aq) ?_
 refine AE (by rfl) (D2 6 (by rfl) (by exact Da) (by exact CY) (by exact Da) (by exact CY) (by simp only [wB, eq_self, Nat.reduceEqDiff, reduceIte]; rfl) (by simp only [wB, eq_self, Nat.reduceEqDiff, reduceIte]; rfl) (by simp only [wB, eq_self, Nat.reduceEqDiff, reduceIte]; rfl) (by exact CZ) (by decide) (by decide) (by decide) hti (by first | exact Nat.le_refl _ | (simp [rows]; done) | exact Aq) fun v2 => ?_)
 try simp only [AS, BI, List.set, List.cons_append, List.nil_append, List.mem_cons, List.not_mem_nil, or_false, false_or, Nat.reduceEqDiff, Nat.reduceAdd, reduceIte, wB, eq_self, Nat.reduceEqDiff, reduceIte, wL, Int.toNat_natCast, Int.reduceToNat, Nat.reduceAdd, Nat.reduceMul, Nat.reduceSub, Nat.reduceLeDiff, hx]
 refine Ab ?_
 refine h19 _ ?_; clear h19
 refine Be ?_
 simp only [Af, Nat.reduceEqDiff, reduceIte, eq_self]
 refine h9 _ ?_; clear h9
 refine Ad ?_
 try refine Ac ?_
 refine Am (hq := by exact Aq) ?_
 refine Ae (hq := by exact Aq) ?_
 refine Ab ?_
 refine h5 _ ⟨(i + 1, v2), ?_, ?_, [some 0, some 1, some 2, some 3, some 8], ?_⟩
 dsimp only
 omega
 dsimp only
 omega
 dsimp only
 refine ⟨by rfl, ?_, ?_⟩
 refine Aj ?_
 ·(repeat' apply And.intro) <;> (first | (first | (with_reducible rfl) | exact True.intro | trivial | omega | (rw [hnext, CW, hSl]; done) | (refine congrArg (OB.bag _ _) ?_; rw [hnext, BW, hN]; simp [rows]; done) | (refine congrArg (OB.bag _ _) ?_; rw [hnext, BW, hN]; done) | rfl) | exact At)
 refine Aj ?_
 ·(repeat' apply And.intro) <;> (first | (first | (with_reducible rfl) | exact True.intro | trivial | omega | (rw [hnext, CW, hSl]; done) | (refine congrArg (OB.bag _ _) ?_; rw [hnext, BW, hN]; simp [rows]; done) | (refine congrArg (OB.bag _ _) ?_; rw [hnext, BW, hN]; done) | rfl) | exact At)
 have hk4 : ¬a = 4 := by have := hb18; (try simp at this); omega
 have hk23 : a = 2 ∨ a = 3 := by omega
 obtain ⟨hc0, hci, he0, hei⟩ := hat hk1
 obtain ⟨sx, hsx⟩ := Cb (l := (Dg l P q i)) (i := c.toNat) (by omega)
 obtain ⟨sy, hsy⟩ := Cb (l := (Dg l P q i)) (i := e.toNat) (by omega)
 have hxl := hSa sx (AF hsx)
 have hyl := hSa sy (AF hsy)
 have hN := (Wl (l := l) (P := P) (b := b) hk1 hk4 hsx hsy).trans (S3 l a sx sy).symm
 have hga := fun v => HV (n := q.length) (i := i) (x := [.raw v]) hsx (by omega)
 have hgb := fun v => HV (n := q.length) (i := i) (x := [.raw v]) hsy (by omega)
 have hown := fun v => HW (S := (Dg l P q i)) (n := q.length) (i := i) (x := [.raw v]) htl hiq
 refine An ?_
 try simp only [Af]
 refine h12 _ ?_; clear h12
 refine Aa fun N20 h20 => ?_
 refine Oy 3 1 rfl ?_
 simp only [List.cons_append, List.nil_append]
 refine Ad ?_
 try refine Ac ?_
 refine Au (hq := by exact Aq) ?_
 refine Ar (hq := by exact Aq) ?_
 refine Bm (hq := by exact Aq) ?_
 refine Ae (hq := by exact Aq) ?_
 refine Ab ?_
 refine h20 _ ?_; clear h20
 refine Aw ?_
 refine A9 (σ := Nat × Value) (fun s => (fun j u => j ≤ l.length) (s.1) (s.2))
  (fun s => (fun j u => [(2, .ptr 0 0 0), (3, .ptr 1 0 0), (5, .ptr 3 0 0), (6, .d (.int .i64 (i : Nat))), (7, .ptr 4 0 0), (8, .clo (.func 74) [.ptr 3 0 0]), (16, .d (.sl (rows DL q))), (17, .d (.int .i64 (q.length : Nat))), (18, .d (.int .i64 (i : Nat))), (47, .d (.sl (rows eI l))), (48, .d (.int .i64 (l.length : Nat))), (49, .d (.int .i64 (j : Nat)))]) (s.1) (s.2))
  (fun s => (fun j u => [some (.one 49 [.d (.sl (rows eI l)), .d (.sl (rows eP P))]), some (.one 25 [.d (.sl (rows DL q))]), some (.vec 27 1 ((D4 (Dg l P q i) q.length).set i [.raw u])), some (.one 107 [.sl 2 0 q.length]), some (.one 55 [.d (.int .i64 a), .d (.str b), .d (.int .i64 c), .d (.int .i64 e)]), some (.ob (.bag 3 1 [(u, rows eI (H7 l a sx sy j))]))]) (s.1) (s.2)) (fun s => (fun j u => l.length - j) (s.1) (s.2)) hnp (0, FM) ?_ [some 0, some 1, some 2, some 3, some 5, some 6] ?_ ?_
 dsimp only
 omega
 dsimp only
 refine ⟨by rfl, ?_, ?_⟩
 refine Aj ?_
 ·(repeat' apply And.intro) <;> (first | (first | (with_reducible rfl) | (rw [hset0]; done) | rfl | trivial | omega | exact congrArg (OB.bag _ _) (by rw [S0]; rfl)) | exact At)
 refine Aj ?_
 ·(repeat' apply And.intro) <;> (first | (first | (with_reducible rfl) | (rw [hset0]; done) | rfl | trivial | omega | exact congrArg (OB.bag _ _) (by rw [S0]; rfl)) | exact At)
 rintro ⟨j, u⟩ hinv N21 h21
 dsimp only at hinv ⊢
 have j1 := hinv
 refine Aa fun N22 h22 => ?_
 refine Ad ?_
 try refine Ac ?_
 refine Am (hq := by exact Aq) ?_
 refine Ab ?_
 refine h22 _ ?_; clear h22
 refine Aa fun N23 h23 => ?_
 refine Al (fun hb24 => ?_) (fun hb24 => ?_)
 have hjl : j < l.length := by have := hb24; (try simp at this); omega
 obtain ⟨t, hte⟩ := Cb (l := l) (i := j) hjl
 have hkl := S4 l a sx sy j
 have hstep := Qk (kd := a) (x := sx) (y := sy) hte
 have hg1 := hga u
 have hg2 := hgb u
 have hd1 : Vt ((D4 (Dg l P q i) q.length).set i [.raw u]) c.toNat = sx := R9 hg1
 have hd2 : Vt ((D4 (Dg l P q i) q.length).set i [.raw u]) e.toNat = sy := R9 hg2
 have hu := hown u
 refine An ?_
 try simp only [Af]
 refine h23 _ ?_; clear h23
 refine Aa fun N25 h25 => ?_
 refine Aw ?_
 refine Aa fun N26 h26 => ?_
 have hx := And.intro @hte (And.intro @eI.eq_1 hx0)
 refine Ad ?_
 try refine Ac ?_
 refine Au (hq := by exact Aq) ?_
 refine Ar (hq := by exact Aq) ?_
 refine Ae (hq := by exact Aq) ?_
 refine Ab ?_
 have hx := hx0
 refine h26 _ ?_; clear h26
 refine FV (σ := Bool) (fun s => (fun w => w = Lg a (decide (t ∈ sx)) (decide (t ∈ sy))) s)
  (fun s => (fun w => [(2, .ptr 0 0 0), (3, .ptr 1 0 0), (5, .ptr 3 0 0), (6, .d (.int .i64 (i : Nat))), (7, .ptr 4 0 0), (8, .clo (.func 74) [.ptr 3 0 0]), (10, .d (.int .i64 t)), (16, .d (.sl (rows DL q))), (17, .d (.int .i64 (q.length : Nat))), (18, .d (.int .i64 (i : Nat))), (47, .d (.sl (rows eI l))), (48, .d (.int .i64 (l.length : Nat))), (49, .d (.int .i64 (j : Nat))), (88, .d (.bool w))]) s)
  (fun s => (fun w => [some (.one 49 [.d (.sl (rows eI l)), .d (.sl (rows eP P))]), some (.one 25 [.d (.sl (rows DL q))]), some (.vec 27 1 ((D4 (Dg l P q i) q.length).set i [.raw u])), some (.one 107 [.sl 2 0 q.length]), some (.one 55 [.d (.int .i64 a), .d (.str b), .d (.int .i64 c), .d (.int .i64 e)]), some (.ob (.bag 3 1 [(u, rows eI (H7 l a sx sy j))]))]) s) hnp ?_ ?_
 rintro w hinv
 dsimp only at hinv ⊢
 have hwv := hinv
 refine Al (fun hb28 => ?_) (fun hb28 => ?_)
 have hks : H7 l a sx sy (j + 1) = H7 l a sx sy j ++ [t] := by rw [hstep, if_pos (by rw [← hwv]; exact hb28)]
 have hx := And.intro @hu (And.intro @hsl0 hx0)
 refine Fs [] (.seq [1, 2, 3, 4, 5, 6] (.alt 0 (.seq [7, 8, 9, 10] .nil) (.alt 7 (.alt 0 (.seq [8, 9, 10] .nil) (.alt 8 (.seq [0, 9, 10] .nil) .nil)) .nil))) Gm (by kernel_rfl) ?_
 refine Bb ?_
 simp only [Ak, Ai]
 try refine Ac ?_
 refine Ae (hq := by exact Aq) ?_
 refine Ar (hq := by exact Aq) ?_
 refine Ae (hq := by exact Aq) ?_
 refine Au (hq := by exact Aq) ?_
 refine Ar (hq := by exact Aq) ?_
 refine Ae (hq := by exact Aq) ?_
 refine Ab ?_
 refine AN ?_ ?_
 simp only [Ak, Ai]
 try refine Ac ?_
 refine Ar (hq := by exact Aq) ?_
 refine Ab ?_
 refine Bb ?_
 simp only [Ak, Ai]
 try refine Ac ?_
 refine GE (hq := by exact Aq) ?_
 refine AE (by rfl) (FT 5 (by rfl) (m1 := []) (m2 := []) (by exact Da) (by exact CY) (by exact Da) (by exact CY) (by exact CZ) (by exact CZ) (by simp only [wB, eq_self, Nat.reduceEqDiff, reduceIte]; rfl) rfl (by simp only [AS, BI, List.set, List.cons_append, List.nil_append, List.mem_cons, List.not_mem_nil, or_false, false_or, Nat.reduceEqDiff, Nat.reduceAdd, reduceIte]; rfl) (by simp only [BX, wB, eq_self, Nat.reduceEqDiff, reduceIte, wL, Int.toNat_natCast, Int.reduceToNat, Nat.reduceAdd, Nat.reduceMul, Nat.reduceSub, Nat.reduceLeDiff, hx]; rfl) (by decide) (by (first | (first | exact True.intro | (refine ⟨?_, ?_⟩; (intro x hx; simp at hx; subst hx; rfl); simp [rows]; omega) | (unfold BJ; omega) | omega) | exact Ay)) (by (first | (first | exact True.intro | (refine ⟨?_, ?_⟩; (intro x hx; simp at hx; subst hx; rfl); simp [rows]; omega) | (unfold BJ; omega) | omega) | exact Ay)) ?_)
 try simp only [AS, BI, List.set, List.cons_append, List.nil_append, List.mem_cons, List.not_mem_nil, or_false, false_or, Nat.reduceEqDiff, Nat.reduceAdd, reduceIte, wB, eq_self, Nat.reduceEqDiff, reduceIte, wL, Int.toNat_natCast, Int.reduceToNat, Nat.reduceAdd, Nat.reduceMul, Nat.reduceSub, Nat.reduceLeDiff, hx]
 refine Au (hq := by exact Aq) ?_
 refine AE (by rfl) (D2 8 (by rfl) (by exact Da) (by exact CY) (by exact Da) (by exact CY) (by simp only [wB, eq_self, Nat.reduceEqDiff, reduceIte]; rfl) (by simp only [wB, eq_self, Nat.reduceEqDiff, reduceIte]; rfl) (by simp only [wB, eq_self, Nat.reduceEqDiff, reduceIte]; rfl) (by exact CZ) (by decide) (by decide) (by decide) hu (by first | exact Nat.le_refl _ | (simp [rows]; done) | exact Aq) fun u1 => ?_)
 try simp only [AS, BI, List.set, List.cons_append, List.nil_append, List.mem_cons, List.not_mem_nil, or_false, false_or, Nat.reduceEqDiff, Nat.reduceAdd, reduceIte, wB, eq_self, Nat.reduceEqDiff, reduceIte, wL, Int.toNat_natCast, Int.reduceToNat, Nat.reduceAdd, Nat.reduceMul, Nat.reduceSub, Nat.reduceLeDiff, hx]
 refine Ab ?_
 refine B9 ?_
 have hx := hx0
 refine h25 _ ?_; clear h25
 refine Ad ?_
 try refine Ac ?_
 refine Am (hq := by exact Aq) ?_
 refine Ae (hq := by exact Aq) ?_
 refine Ab ?_
 refine h21 _ ⟨(j + 1, u1), ?_, ?_, [some 0, some 1, some 2, some 3, some 4, some 10], ?_⟩
 dsimp only
 omega
 dsimp only
 omega
 dsimp only
 refine ⟨by rfl, ?_, ?_⟩
 refine Aj ?_
 ·(repeat' apply And.intro) <;> (first | (first | (with_reducible rfl) | exact True.intro | trivial | omega | (rw [List.set_set]; done) | (refine congrArg (OB.bag _ _) ?_; rw [hks, List.take_of_length_le (by simp [rows])]; simp [rows, eI]; done) | (refine congrArg (OB.bag _ _) ?_; rw [hks]; done) | rfl) | exact At)
 refine Aj ?_
 ·(repeat' apply And.intro) <;> (first | (first | (with_reducible rfl) | exact True.intro | trivial | omega | (rw [List.set_set]; done) | (refine congrArg (OB.bag _ _) ?_; rw [hks, List.take_of_length_le (by simp [rows])]; simp [rows, eI]; done) | (refine congrArg (OB.bag _ _) ?_; rw [hks]; done) | rfl) | exact At)
 refine AN ?_ ?_
 simp only [Ak, Ai]
 try refine Ac ?_
 refine GE (hq := by exact Aq) ?_
 refine Ab ?_
 refine AN ?_ ?_
 simp only [Ak, Ai]
 try refine Ac ?_
 refine Ar (hq := by exact Aq) ?_
 refine Ab ?_
 refine Bb ?_
 simp only [Ak, Ai]
 try refine Ac ?_
 refine AE (by rfl) (FT 5 (by rfl) (m1 := []) (m2 := []) (by exact Da) (by exact CY) (by exact Da) (by exact CY) (by exact CZ) (by exact CZ) (by simp only [wB, eq_self, Nat.reduceEqDiff, reduceIte]; rfl) rfl (by simp only [AS, BI, List.set, List.cons_append, List.nil_append, List.mem_cons, List.not_mem_nil, or_false, false_or, Nat.reduceEqDiff, Nat.reduceAdd, reduceIte]; rfl) (by simp only [BX, wB, eq_self, Nat.reduceEqDiff, reduceIte, wL, Int.toNat_natCast, Int.reduceToNat, Nat.reduceAdd, Nat.reduceMul, Nat.reduceSub, Nat.reduceLeDiff, hx]; rfl) (by decide) (by (first | (first | exact True.intro | (refine ⟨?_, ?_⟩; (intro x hx; simp at hx; subst hx; rfl); simp [rows]; omega) | (unfold BJ; omega) | omega) | exact Ay)) (by (first | (first | exact True.intro | (refine ⟨?_, ?_⟩; (intro x hx; simp at hx; subst hx; rfl); simp [rows]; omega) | (unfold BJ; omega) | omega) | exact Ay)) ?_)
 try simp only [AS, BI, List.set, List.cons_append, List.nil_append, List.mem_cons, List.not_mem_nil, or_false, false_or, Nat.reduceEqDiff, Nat.reduceAdd, reduceIte, wB, eq_self, Nat.reduceEqDiff, reduceIte, wL, Int.toNat_natCast, Int.reduceToNat, Nat.reduceAdd, Nat.reduceMul, Nat.reduceSub, Nat.reduceLeDiff, hx]
 refine Au (hq := by exact Aq) ?_
 refine AE (by rfl) (D2 8 (by rfl) (by exact Da) (by exact CY) (by exact Da) (by exact CY) (by simp only [wB, eq_self, Nat.reduceEqDiff, reduceIte]; rfl) (by simp only [wB, eq_self, Nat.reduceEqDiff, reduceIte]; rfl) (by simp only [wB, eq_self, Nat.reduceEqDiff, reduceIte]; rfl) (by exact CZ) (by decide) (by decide) (by decide) hu (by first | exact Nat.le_refl _ | (simp [rows]; done) | exact Aq) fun u1 => ?_)
 try simp only [AS, BI, List.set, List.cons_append, List.nil_append, List.mem_cons, List.not_mem_nil, or_false, false_or, Nat.reduceEqDiff, Nat.reduceAdd, reduceIte, wB, eq_self, Nat.reduceEqDiff, reduceIte, wL, Int.toNat_natCast, Int.reduceToNat, Nat.reduceAdd, Nat.reduceMul, Nat.reduceSub, Nat.reduceLeDiff, hx]
 refine Ab ?_
 refine B9 ?_
 have hx := hx0
 refine h25 _ ?_; clear h25
 refine Ad ?_
 try refine Ac ?_
 refine Am (hq := by exact Aq) ?_
 refine Ae (hq := by exact Aq) ?_
 refine Ab ?_
 refine h21 _ ⟨(j + 1, u1), ?_, ?_, [some 0, some 1, some 2, some 3, some 4, some 10], ?_⟩
 dsimp only
 omega
 dsimp only
 omega
 dsimp only
 refine ⟨by rfl, ?_, ?_⟩
 refine Aj ?_
 ·(repeat' apply And.intro) <;> (first | (first | (with_reducible rfl) | exact True.intro | trivial | omega | (rw [List.set_set]; done) | (refine congrArg (OB.bag _ _) ?_; rw [hks, List.take_of_length_le (by simp [rows])]; simp [rows, eI]; done) | (refine congrArg (OB.bag _ _) ?_; rw [hks]; done) | rfl) | exact At)
 refine Aj ?_
 ·(repeat' apply And.intro) <;> (first | (first | (with_reducible rfl) | exact True.intro | trivial | omega | (rw [List.set_set]; done) | (refine congrArg (OB.bag _ _) ?_; rw [hks, List.take_of_length_le (by simp [rows])]; simp [rows, eI]; done) | (refine congrArg (OB.bag _ _) ?_; rw [hks]; done) | rfl) | exact At)
 refine AN ?_ ?_
 simp only [Ak, Ai]
 try refine Ac ?_
 refine AE (by rfl) (FT 5 (by rfl) (m1 := []) (m2 := []) (by exact Da) (by exact CY) (by exact Da) (by exact CY) (by exact CZ) (by exact CZ) (by simp only [wB, eq_self, Nat.reduceEqDiff, reduceIte]; rfl) rfl (by simp only [AS, BI, List.set, List.cons_append, List.nil_append, List.mem_cons, List.not_mem_nil, or_false, false_or, Nat.reduceEqDiff, Nat.reduceAdd, reduceIte]; rfl) (by simp only [BX, wB, eq_self, Nat.reduceEqDiff, reduceIte, wL, Int.toNat_natCast, Int.reduceToNat, Nat.reduceAdd, Nat.reduceMul, Nat.reduceSub, Nat.reduceLeDiff, hx]; rfl) (by decide) (by (first | (first | exact True.intro | (refine ⟨?_, ?_⟩; (intro x hx; simp at hx; subst hx; rfl); simp [rows]; omega) | (unfold BJ; omega) | omega) | exact Ay)) (by (first | (first | exact True.intro | (refine ⟨?_, ?_⟩; (intro x hx; simp at hx; subst hx; rfl); simp [rows]; omega) | (unfold BJ; omega) | omega) | exact Ay)) ?_)
 try simp only [AS, BI, List.set, List.cons_append, List.nil_append, List.mem_cons, List.not_mem_nil, or_false, false_or, Nat.reduceEqDiff, Nat.reduceAdd, reduceIte, wB, eq_self, Nat.reduceEqDiff, reduceIte, wL, Int.toNat_natCast, Int.reduceToNat, Nat.reduceAdd, Nat.reduceMul, Nat.reduceSub, Nat.reduceLeDiff, hx]
 refine Ab ?_
 refine Bb ?_
 simp only [Ak, Ai]
 try refine Ac ?_
 refine Ar (hq := by exact Aq) ?_
 refine Au (hq := by exact Aq) ?_
 refine AE (by rfl) (D2 8 (by rfl) (by exact Da) (by exact CY) (by exact Da) (by exact CY) (by simp only [wB, eq_self, Nat.reduceEqDiff, reduceIte]; rfl) (by simp only [wB, eq_self, Nat.reduceEqDiff, reduceIte]; rfl) (by simp only [wB, eq_self, Nat.reduceEqDiff, reduceIte]; rfl) (by exact CZ) (by decide) (by decide) (by decide) hu (by first | exact Nat.le_refl _ | (simp [rows]; done) | exact Aq) fun u1 => ?_)
 try simp only [AS, BI, List.set, List.cons_append, List.nil_append, List.mem_cons, List.not_mem_nil, or_false, false_or, Nat.reduceEqDiff, Nat.reduceAdd, reduceIte, wB, eq_self, Nat.reduceEqDiff, reduceIte, wL, Int.toNat_natCast, Int.reduceToNat, Nat.reduceAdd, Nat.reduceMul, Nat.reduceSub, Nat.reduceLeDiff, hx]
 refine Ab ?_
 refine B9 ?_
 have hx := hx0
 refine h25 _ ?_; clear h25
 refine Ad ?_
 try refine Ac ?_
 refine Am (hq := by exact Aq) ?_
 refine Ae (hq := by exact Aq) ?_
 refine Ab ?_
 refine h21 _ ⟨(j + 1, u1), ?_, ?_, [some 0, some 1, some 2, some 3, some 4, some 10], ?_⟩
 dsimp only
 omega
 dsimp only
 omega
 dsimp only
 refine ⟨by rfl, ?_, ?_⟩
 refine Aj ?_
 ·(repeat' apply And.intro) <;> (first | (first | (with_reducible rfl) | exact True.intro | trivial | omega | (rw [List.set_set]; done) | (refine congrArg (OB.bag _ _) ?_; rw [hks, List.take_of_length_le (by simp [rows])]; simp [rows, eI]; done) | (refine congrArg (OB.bag _ _) ?_; rw [hks]; done) | rfl) | exact At)
 refine Aj ?_
 ·(repeat' apply And.intro) <;> (first | (first | (with_reducible rfl) | exact True.intro | trivial | omega | (rw [List.set_set]; done) | (refine congrArg (OB.bag _ _) ?_; rw [hks, List.take_of_length_le (by simp [rows])]; simp [rows, eI]; done) | (refine congrArg (OB.bag _ _) ?_; rw [hks]; done) | rfl) | exact At)
 exact Cl
 exact Cl
 have hks : H7 l a sx sy (j + 1) = H7 l a sx sy j := by rw [hstep, if_neg (by rw [← hwv]; have := hb28; simpa using this), List.append_nil]
 refine An ?_
 try simp only [Af]
 refine h25 _ ?_; clear h25
 refine Ad ?_
 try refine Ac ?_
 refine Am (hq := by exact Aq) ?_
 refine Ae (hq := by exact Aq) ?_
 refine Ab ?_
 refine h21 _ ⟨(j + 1, u), ?_, ?_, [some 0, some 1, some 2, some 3, some 4, some 5], ?_⟩
 dsimp only
 omega
 dsimp only
 omega
 dsimp only
 refine ⟨by rfl, ?_, ?_⟩
 refine Aj ?_
 ·(repeat' apply And.intro) <;> (first | (first | (with_reducible rfl) | exact True.intro | trivial | omega | (rw [List.set_set]; done) | (refine congrArg (OB.bag _ _) ?_; rw [hks, List.take_of_length_le (by simp [rows])]; simp [rows, eI]; done) | (refine congrArg (OB.bag _ _) ?_; rw [hks]; done) | rfl) | exact At)
 refine Aj ?_
 ·(repeat' apply And.intro) <;> (first | (first | (with_reducible rfl) | exact True.intro | trivial | omega | (rw [List.set_set]; done) | (refine congrArg (OB.bag _ _) ?_; rw [hks, List.take_of_length_le (by simp [rows])]; simp [rows, eI]; done) | (refine congrArg (OB.bag _ _) ?_; rw [hks]; done) | rfl) | exact At)
 intro N27 h27
 rcases Uk hk23 t sx sy with ⟨rfl, m1, m2⟩ | ⟨rfl, m1, m2⟩ | ⟨rfl, m1, m2⟩ | ⟨rfl, m1, m2⟩ | ⟨rfl, m1, m2⟩
 skip
 have hx := And.intro @hd1 (And.intro @hd2 (And.intro @hsl0 (And.intro @m1 (And.intro @m2 hx0))))
 refine Ad ?_
 try refine Ac ?_
 refine Au (hq := by exact Aq) ?_
 refine Ar (hq := by exact Aq) ?_
 refine Am (hq := by exact Aq) ?_
 refine Ae (hq := by exact Aq) ?_
 refine Cy (hq := by exact Aq) ?_
 refine D7 (hq := by exact Aq) ?_
 refine DJ (hq := by exact Aq) ?_
 refine Cy (hq := by exact Aq) ?_
 have hc := (show ((CS.at_ 107)).Γ 74 = some (Spec.gen Fb) from rfl)
 have hs := (@Fb.eq_1)
 refine MQ (hq := by (first | ((repeat' apply And.intro) <;> first | rfl | exact (hsl0 u).symm | omega | exact hg1 | exact hg2 | exact True.intro) | exact Ay)) ?_
 refine AQ (hq := by exact Aq) ?_
 refine Ae (hq := by exact Aq) ?_
 refine Cy (hq := by exact Aq) ?_
 refine D7 (hq := by exact Aq) ?_
 refine DJ (hq := by exact Aq) ?_
 refine Cy (hq := by exact Aq) ?_
 have hc := (show ((CS.at_ 107)).Γ 74 = some (Spec.gen Fb) from rfl)
 have hs := (@Fb.eq_1)
 refine MQ (hq := by (first | ((repeat' apply And.intro) <;> first | rfl | exact (hsl0 u).symm | omega | exact hg1 | exact hg2 | exact True.intro) | exact Ay)) ?_
 refine AQ (hq := by exact Aq) ?_
 refine Ae (hq := by exact Aq) ?_
 refine Av ?_ ?_
 focus (exact Bl)
 refine Av ?_ ?_
 focus (exact Bl)
 refine Av ?_ ?_
 focus (exact Bl)
 refine Av ?_ ?_
 focus (exact Bl)
 refine Av ?_ ?_
 focus (exact Bl)
 refine Av ?_ ?_
 focus (exact Bl)
 refine Av ?_ ?_
 focus (exact Bl)
 refine Av ?_ ?_
 focus (exact Bl)
 refine Av ?_ ?_
 focus (exact Bl)
 refine Av ?_ ?_
 focus (exact Bl)
 refine Av ?_ ?_
 focus (exact Bl)
 refine Av ?_ ?_
 focus (exact Bl)
 refine Av ?_ ?_
 focus (exact Bl)
 refine Av ?_ ?_
 focus (exact Bl)
 refine Av ?_ ?_
 focus (exact Bl)
 refine Av ?_ ?_
 focus (exact Bl)
 refine Av ?_ ?_
 focus (exact Bl)
 refine AQ (hq := by exact Aq) ?_
 refine Ab ?_
 have hx := hx0
 refine h27 _ ⟨true, ?_, [some 0, some 1, some 2, some 3, some 4, some 5], ?_⟩
 dsimp only
 rw [m1, m2]; rfl
 dsimp only
 refine ⟨by rfl, ?_, ?_⟩
 refine Aj ?_
 ·(repeat' apply And.intro) <;> (first | (first | (with_reducible rfl) | exact True.intro | trivial | rfl | exact Or.inl rfl) | exact At)
 refine Aj ?_
 ·(repeat' apply And.intro) <;> (first | (first | (with_reducible rfl) | exact True.intro | trivial | rfl | exact Or.inl rfl) | exact At)
 skip
 have hx := And.intro @hd1 (And.intro @hd2 (And.intro @hsl0 (And.intro @m1 (And.intro @m2 hx0))))
 refine Ad ?_
 try refine Ac ?_
 refine Au (hq := by exact Aq) ?_
 refine Ar (hq := by exact Aq) ?_
 refine Am (hq := by exact Aq) ?_
 refine Ae (hq := by exact Aq) ?_
 refine Cy (hq := by exact Aq) ?_
 refine D7 (hq := by exact Aq) ?_
 refine DJ (hq := by exact Aq) ?_
 refine Cy (hq := by exact Aq) ?_
 have hc := (show ((CS.at_ 107)).Γ 74 = some (Spec.gen Fb) from rfl)
 have hs := (@Fb.eq_1)
 refine MQ (hq := by (first | ((repeat' apply And.intro) <;> first | rfl | exact (hsl0 u).symm | omega | exact hg1 | exact hg2 | exact True.intro) | exact Ay)) ?_
 refine AQ (hq := by exact Aq) ?_
 refine Ae (hq := by exact Aq) ?_
 refine Cy (hq := by exact Aq) ?_
 refine D7 (hq := by exact Aq) ?_
 refine DJ (hq := by exact Aq) ?_
 refine Cy (hq := by exact Aq) ?_
 have hc := (show ((CS.at_ 107)).Γ 74 = some (Spec.gen Fb) from rfl)
 have hs := (@Fb.eq_1)
 refine MQ (hq := by (first | ((repeat' apply And.intro) <;> first | rfl | exact (hsl0 u).symm | omega | exact hg1 | exact hg2 | exact True.intro) | exact Ay)) ?_
 refine AQ (hq := by exact Aq) ?_
 refine Ae (hq := by exact Aq) ?_
 refine D7 (hq := by exact Aq) ?_
 refine DJ (hq := by exact Aq) ?_
 refine Fz (hq := by exact Aq) ?_
 refine Cy (hq := by exact Aq) ?_
 refine Av ?_ ?_
 focus (exact Bl)
 refine Av ?_ ?_
 focus (exact Bl)
 refine Av ?_ ?_
 focus (exact Bl)
 refine Av ?_ ?_
 focus (exact Bl)
 refine Av ?_ ?_
 focus (exact Bl)
 refine Av ?_ ?_
 focus (exact Bl)
 refine Av ?_ ?_
 focus (exact Bl)
 refine Av ?_ ?_
 focus (exact Bl)
 refine Av ?_ ?_
 focus (exact Bl)
 refine Av ?_ ?_
 focus (exact Bl)
 refine Av ?_ ?_
 focus (exact Bl)
 refine Av ?_ ?_
 focus (exact Bl)
 refine QT (hq := by exact Aq) ?_
 refine AQ (hq := by exact Aq) ?_
 refine Ab ?_
 have hx := hx0
 refine h27 _ ⟨false, ?_, [some 0, some 1, some 2, some 3, some 4, some 5], ?_⟩
 dsimp only
 rw [m1, m2]; rfl
 dsimp only
 refine ⟨by rfl, ?_, ?_⟩
 refine Aj ?_
 ·(repeat' apply And.intro) <;> (first | (first | (with_reducible rfl) | exact True.intro | trivial | rfl | exact Or.inl rfl) | exact At)
 refine Aj ?_
 ·(repeat' apply And.intro) <;> (first | (first | (with_reducible rfl) | exact True.intro | trivial | rfl | exact Or.inl rfl) | exact At)
 skip
 have hx := And.intro @hd1 (And.intro @hd2 (And.intro @hsl0 (And.intro @m1 (And.intro @m2 hx0))))
 refine Ad ?_
 try refine Ac ?_
 refine Au (hq := by exact Aq) ?_
 refine Ar (hq := by exact Aq) ?_
 refine Am (hq := by exact Aq) ?_
 refine Ae (hq := by exact Aq) ?_
 refine Cy (hq := by exact Aq) ?_
 refine D7 (hq := by exact Aq) ?_
 refine DJ (hq := by exact Aq) ?_
 refine Cy (hq := by exact Aq) ?_
 have hc := (show ((CS.at_ 107)).Γ 74 = some (Spec.gen Fb) from rfl)
 have hs := (@Fb.eq_1)
 refine MQ (hq := by (first | ((repeat' apply And.intro) <;> first | rfl | exact (hsl0 u).symm | omega | exact hg1 | exact hg2 | exact True.intro) | exact Ay)) ?_
 refine AQ (hq := by exact Aq) ?_
 refine Ae (hq := by exact Aq) ?_
 refine Av ?_ ?_
 focus (exact Bl)
 refine Av ?_ ?_
 focus (exact Bl)
 refine Av ?_ ?_
 focus (exact Bl)
 refine Av ?_ ?_
 focus (exact Bl)
 refine Av ?_ ?_
 focus (exact Bl)
 refine AQ (hq := by exact Aq) ?_
 refine Ae (hq := by exact Aq) ?_
 refine D7 (hq := by exact Aq) ?_
 refine DJ (hq := by exact Aq) ?_
 refine Fz (hq := by exact Aq) ?_
 refine Cy (hq := by exact Aq) ?_
 refine Av ?_ ?_
 focus (exact Bl)
 refine Av ?_ ?_
 focus (exact Bl)
 refine Av ?_ ?_
 focus (exact Bl)
 refine Av ?_ ?_
 focus (exact Bl)
 refine Av ?_ ?_
 focus (exact Bl)
 refine Av ?_ ?_
 focus (exact Bl)
 refine Av ?_ ?_
 focus (exact Bl)
 refine Av ?_ ?_
 focus (exact Bl)
 refine Av ?_ ?_
 focus (exact Bl)
 refine Av ?_ ?_
 focus (exact Bl)
 refine Av ?_ ?_
 focus (exact Bl)
 refine Av ?_ ?_
 focus (exact Bl)
 refine QT (hq := by exact Aq) ?_
 refine AQ (hq := by exact Aq) ?_
 refine Ab ?_
 have hx := hx0
 refine h27 _ ⟨false, ?_, [some 0, some 1, some 2, some 3, some 4, some 5], ?_⟩
 dsimp only
 rw [m1]; rfl
 dsimp only
 refine ⟨by rfl, ?_, ?_⟩
 refine Aj ?_
 ·(repeat' apply And.intro) <;> (first | (first | (with_reducible rfl) | exact True.intro | trivial | rfl | exact Or.inl rfl) | exact At)
 refine Aj ?_
 ·(repeat' apply And.intro) <;> (first | (first | (with_reducible rfl) | exact True.intro | trivial | rfl | exact Or.inl rfl) | exact At)
 skip
 have hx := And.intro @hd1 (And.intro @hd2 (And.intro @hsl0 (And.intro @m1 (And.intro @m2 hx0))))
 refine Ad ?_
 try refine Ac ?_
 refine Au (hq := by exact Aq) ?_
 refine Ar (hq := by exact Aq) ?_
 refine Am (hq := by exact Aq) ?_
 refine Ae (hq := by exact Aq) ?_
 refine Av ?_ ?_
 focus (exact Bl)
 refine Av ?_ ?_
 focus (exact Bl)
 refine Av ?_ ?_
 focus (exact Bl)
 refine Av ?_ ?_
 focus (exact Bl)
 refine Av ?_ ?_
 focus (exact Bl)
 refine AQ (hq := by exact Aq) ?_
 refine Ae (hq := by exact Aq) ?_
 refine Av ?_ ?_
 focus (exact Bl)
 refine Av ?_ ?_
 focus (exact Bl)
 refine Av ?_ ?_
 focus (exact Bl)
 refine Av ?_ ?_
 focus (exact Bl)
 refine Av ?_ ?_
 focus (exact Bl)
 refine AQ (hq := by exact Aq) ?_
 refine Ae (hq := by exact Aq) ?_
 refine D7 (hq := by exact Aq) ?_
 refine DJ (hq := by exact Aq) ?_
 refine Fz (hq := by exact Aq) ?_
 iterate 2 refine Cy (hq := by exact Aq) ?_
 refine D7 (hq := by exact Aq) ?_
 refine DJ (hq := by exact Aq) ?_
 refine Cy (hq := by exact Aq) ?_
 have hc := (show ((CS.at_ 107)).Γ 74 = some (Spec.gen Fb) from rfl)
 have hs := (@Fb.eq_1)
 refine MQ (hq := by (first | ((repeat' apply And.intro) <;> first | rfl | exact (hsl0 u).symm | omega | exact hg1 | exact hg2 | exact True.intro) | exact Ay)) ?_
 refine Cy (hq := by exact Aq) ?_
 refine Av ?_ ?_
 focus (exact Bl)
 refine Av ?_ ?_
 focus (exact Bl)
 refine Av ?_ ?_
 focus (exact Bl)
 refine Av ?_ ?_
 focus (exact Bl)
 refine Av ?_ ?_
 focus (exact Bl)
 iterate 2 refine QT (hq := by exact Aq) ?_
 refine AQ (hq := by exact Aq) ?_
 refine Ab ?_
 have hx := hx0
 refine h27 _ ⟨true, ?_, [some 0, some 1, some 2, some 3, some 4, some 5], ?_⟩
 dsimp only
 rw [m1]; rfl
 dsimp only
 refine ⟨by rfl, ?_, ?_⟩
 refine Aj ?_
 ·(repeat' apply And.intro) <;> (first | (first | (with_reducible rfl) | exact True.intro | trivial | rfl | exact Or.inl rfl) | exact At)
 refine Aj ?_
 ·(repeat' apply And.intro) <;> (first | (first | (with_reducible rfl) | exact True.intro | trivial | rfl | exact Or.inl rfl) | exact At)
 skip
 have hx := And.intro @hd1 (And.intro @hd2 (And.intro @hsl0 (And.intro @m1 (And.intro @m2 hx0))))
 refine Ad ?_
 try refine Ac ?_
 refine Au (hq := by exact Aq) ?_
 refine Ar (hq := by exact Aq) ?_
 refine Am (hq := by exact Aq) ?_
 refine Ae (hq := by exact Aq) ?_
 refine Av ?_ ?_
 focus (exact Bl)
 refine Av ?_ ?_
 focus (exact Bl)
 refine Av ?_ ?_
 focus (exact Bl)
 refine Av ?_ ?_
 focus (exact Bl)
 refine Av ?_ ?_
 focus (exact Bl)
 refine AQ (hq := by exact Aq) ?_
 refine Ae (hq := by exact Aq) ?_
 refine Av ?_ ?_
 focus (exact Bl)
 refine Av ?_ ?_
 focus (exact Bl)
 refine Av ?_ ?_
 focus (exact Bl)
 refine Av ?_ ?_
 focus (exact Bl)
 refine Av ?_ ?_
 focus (exact Bl)
 refine AQ (hq := by exact Aq) ?_
 refine Ae (hq := by exact Aq) ?_
 refine D7 (hq := by exact Aq) ?_
 refine DJ (hq := by exact Aq) ?_
 refine Fz (hq := by exact Aq) ?_
 iterate 2 refine Cy (hq := by exact Aq) ?_
 refine D7 (hq := by exact Aq) ?_
 refine DJ (hq := by exact Aq) ?_
 refine Cy (hq := by exact Aq) ?_
 have hc := (show ((CS.at_ 107)).Γ 74 = some (Spec.gen Fb) from rfl)
 have hs := (@Fb.eq_1)
 refine MQ (hq := by (first | ((repeat' apply And.intro) <;> first | rfl | exact (hsl0 u).symm | omega | exact hg1 | exact hg2 | exact True.intro) | exact Ay)) ?_
 iterate 2 refine Cy (hq := by exact Aq) ?_
 refine D7 (hq := by exact Aq) ?_
 refine DJ (hq := by exact Aq) ?_
 refine Cy (hq := by exact Aq) ?_
 have hc := (show ((CS.at_ 107)).Γ 74 = some (Spec.gen Fb) from rfl)
 have hs := (@Fb.eq_1)
 refine MQ (hq := by (first | ((repeat' apply And.intro) <;> first | rfl | exact (hsl0 u).symm | omega | exact hg1 | exact hg2 | exact True.intro) | exact Ay)) ?_
 iterate 2 refine QT (hq := by exact Aq) ?_
 refine AQ (hq := by exact Aq) ?_
 refine Ab ?_
 have hx := hx0
 refine h27 _ ⟨decide (t ∈ sy), ?_, [some 0, some 1, some 2, some 3, some 4, some 5], ?_⟩
 dsimp only
 rw [m1, Xh, Bool.false_or]
 dsimp only
 refine ⟨by rfl, ?_, ?_⟩
 refine Aj ?_
 ·(repeat' apply And.intro) <;> (first | (first | (with_reducible rfl) | exact True.intro | trivial | rfl | exact Or.inl rfl) | exact At)
 refine Aj ?_
 ·(repeat' apply And.intro) <;> (first | (first | (with_reducible rfl) | exact True.intro | trivial | rfl | exact Or.inl rfl) | exact At)
 obtain rfl : j = l.length := by have := hb24; (try simp at this); omega
 refine Be ?_
 simp only [Af, Nat.reduceEqDiff, reduceIte, eq_self]
 refine h9 _ ?_; clear h9
 refine Ad ?_
 try refine Ac ?_
 refine Am (hq := by exact Aq) ?_
 refine Ae (hq := by exact Aq) ?_
 refine Ab ?_
 refine h5 _ ⟨(i + 1, u), ?_, ?_, [some 0, some 1, some 2, some 3, some 5], ?_⟩
 dsimp only
 omega
 dsimp only
 omega
 dsimp only
 refine ⟨by rfl, ?_, ?_⟩
 refine Aj ?_
 ·(repeat' apply And.intro) <;> (first | (first | (with_reducible rfl) | exact True.intro | trivial | omega | (rw [hnext, CW, hSl]; done) | (refine congrArg (OB.bag _ _) ?_; rw [hnext, BW, hN]; simp [rows]; done) | (refine congrArg (OB.bag _ _) ?_; rw [hnext, BW, hN]; done) | rfl) | exact At)
 refine Aj ?_
 ·(repeat' apply And.intro) <;> (first | (first | (with_reducible rfl) | exact True.intro | trivial | omega | (rw [hnext, CW, hSl]; done) | (refine congrArg (OB.bag _ _) ?_; rw [hnext, BW, hN]; simp [rows]; done) | (refine congrArg (OB.bag _ _) ?_; rw [hnext, BW, hN]; done) | rfl) | exact At)
 obtain rfl : i = q.length := by have := hb8; (try simp at this); omega
 have hSl := Ez l P q q.length
 obtain ⟨T, s, hS⟩ : ∃ T s, Dg l P q q.length = T ++ [s] := ⟨_, _, (List.dropLast_concat_getLast (l := Dg l P q q.length) (fun h => by rw [h] at hSl; simp at hSl; omega)).symm⟩
 have hTl : T.length = q.length - 1 := by rw [hS] at hSl; simp at hSl; omega
 have hmq : Ib l P q = s := by unfold Ib; rw [hS, ← hTl, List.getD_eq_getElem?_getD]; simp
 have hsl := GZ (l := l) (P := P) (q := q) s (by rw [hS]; simp)
 have hqm : ((q.length : Int) - 1).toNat = T.length := by omega
 have hget := HW (S := T) (n := q.length) (i := T.length) (x := [.raw v]) (Hj (by omega)) (by omega)
 have htln : ((D4 T q.length).set T.length [.raw v]).length = q.length := by rw [List.length_set]; exact Hj (by omega)
 rw [hS, CW, BW]
 refine Be ?_
 simp only [Af, Nat.reduceEqDiff, reduceIte, eq_self]
 refine h3 _ ?_; clear h3
 refine Aa fun N29 h29 => ?_
 have hx := And.intro @hqm (And.intro @hget (And.intro @htln hx0))
 refine Ad ?_
 try refine Ac ?_
 iterate 2 refine Ar (hq := by exact Aq) ?_
 refine Bm (hq := by exact Aq) ?_
 refine Am (hq := by exact Aq) ?_
 refine Au (hq := by exact Aq) ?_
 refine AE (by rfl) (JF 4 (by rfl) (m1 := []) (m2 := []) (by simp only [wB, eq_self, Nat.reduceEqDiff, reduceIte, CG, EN, E6, Bv, K3, hT, Cw, wL, Int.toNat_natCast, Int.reduceToNat, Nat.reduceAdd, Nat.reduceMul, Nat.reduceSub, Nat.reduceLeDiff, hx]; rfl) (by simp only [wB, eq_self, Nat.reduceEqDiff, reduceIte, and_true]) (by exact Aq) (by simp only [wB, eq_self, Nat.reduceEqDiff, reduceIte]; rfl) rfl ?_)
 try simp only [AS, BI, List.set, List.cons_append, List.nil_append, List.mem_cons, List.not_mem_nil, or_false, false_or, Nat.reduceEqDiff, Nat.reduceAdd, reduceIte, wB, eq_self, Nat.reduceEqDiff, reduceIte, wL, Int.toNat_natCast, Int.reduceToNat, Nat.reduceAdd, Nat.reduceMul, Nat.reduceSub, Nat.reduceLeDiff, hx]
 refine Ae (hq := by exact Aq) ?_
 refine Ab ?_
 have hx := hx0
 refine h29 _ ?_; clear h29
 refine Ao ?_
 try simp only [Af]
 rw [hmq]
 refine Aj ?_
 refine ⟨[some 5], by rfl, ?_, ?_⟩
 refine Aj ?_
 exact At
 refine Aj ?_
 exact At
 cases hg

def GJ : Bo Tryz.prog := CS.add 50 (Spec.fresh X0) QB (by kernel_rfl)
end Go.Proofs.YtmbjnkgpcbpclaaGreat
