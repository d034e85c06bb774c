/- Walks, printed by wip/gen/walk.py. -/
import Derived.Test.YtmbjnkgpcbpclaaGreatT110
import Derived.Test.YtmbjnkgpcbpclaaGreatV5
set_option linter.all false
set_option maxRecDepth 100000
set_option maxHeartbeats 4000000
namespace Go.Proofs.YtmbjnkgpcbpclaaGreat
open Go Go.Vc Go.RowKit
def Yo : D3
  | [.agg [.d (.sl xs), .d (.sl ps)], .agg [.d (.sl ys)]], [] => some (xs = rows eI (dI xs) ∧ (dI xs).length ≤ 9223372036854775807 ∧ ps = rows eP (dP ps) ∧ (dP ps).length ≤ 9223372036854775807 ∧ EE (dP ps) ∧ Br (dI xs) (dP ps) = (0, 0) ∧ ys = rows DR (Cz ys) ∧ Cq (Cz ys) = (0, 0), .sl 0 0 (LC (dI xs) (dP ps) (Cz ys)).length, [some (.vec 3 1 (rows eI (LC (dI xs) (dP ps) (Cz ys))))])
  | _, _ => none
theorem Vb {a : Int} (h : a = 2 ∨ a = 3) (t : Int) (x y : List Int) : (a = 2 ∧ decide (t ∈ x) = true ∧ decide (t ∈ y) = true) ∨ (a = 2 ∧ decide (t ∈ x) = true ∧ decide (t ∈ y) = false) ∨ (a = 2 ∧ decide (t ∈ x) = false ∧ True) ∨ (a = 3 ∧ decide (t ∈ x) = true ∧ True) ∨ (a = 3 ∧ decide (t ∈ x) = false ∧ True) := by
  rcases h with rfl | rfl <;> cases decide (t ∈ x) <;> cases decide (t ∈ y) <;> simp
theorem Ww (a b : Bool) : LB 3 a b = (a || b) := rfl
theorem Tu (l : List Int) (kd : Int) (x y : List Int) : ET l kd x y 0 = [] := rfl
theorem Ui {xs : List (List D)} {i : Nat} {x : List D} (h : xs[i]? = some x) : xs.set i x = xs := by
  obtain ⟨h1, h2⟩ := List.getElem?_eq_some_iff.1 h
  subst h2
  exact List.set_getElem_self h1
theorem Iy {S : List (List Int)} {n i j : Nat} {x : List D} {s : List Int} (h : S[j]? = some s) (hne : i ≠ j) : ((DI S n).set i x)[j]? = some [.sl (rows eI s)] := by
  rw [List.getElem?_set, if_neg hne]; exact Uz h
theorem Iz {S : List (List Int)} {n i : Nat} {x : List D} (h : (DI S n).length = n) (hi : i < n) : ((DI S n).set i x)[i]? = some x := by
  rw [List.getElem?_set, if_pos rfl, if_pos (by omega)]

theorem R3 : A1 Tryz.prog 50 (Spec.fresh Yo) := by
 refine EM (Dh.at_ 107) Tryz.func50 rfl rfl rfl ?_
 intro args bl p r bf hg hp
 unfold Yo at hg
 split at hg
 rename_i xs ps ys
 simp only [Option.some.injEq, Prod.mk.injEq] at hg
 obtain ⟨rfl, rfl, rfl⟩ := hg
 obtain ⟨he, hl, he2, hl2, hsm, hvf, he3, hvq⟩ := hp
 generalize dI xs = l at *
 generalize dP ps = P at *
 generalize Cz ys = q at *
 subst he he2 he3
 have hvl := JS (show (Br l P).1 = 0 by rw [hvf])
 have hlen20 := hvl.tlen
 obtain ⟨_, h1, h40, _⟩ := F7 hvq
 have hT : (Dh).X = T := rfl
 have hx0 := And.intro @DB (And.intro @BQ (And.intro @AA (And.intro @B4 (And.intro @AY (And.intro @Ci (And.intro @Ch (And.intro @Jm @Tryz.results50)))))))
 have hx := hx0
 refine ⟨Nat.le_of_ble_eq_true rfl, ?_⟩
 intro F W0 M0 hnp hmk
 have hnp : Bd.np = 0 := hnp
 refine Aa fun N1 h1 => ?_
 refine Ad ?_
 try refine Ac ?_
 iterate 2 refine EX (hq := by exact Aq) ?_
 refine Ae (hq := by exact Aq) ?_
 refine Ab ?_
 refine h1 _ ?_; clear h1
 refine Aa fun N2 h2 => ?_
 refine Ad ?_
 try refine Ac ?_
 refine At (hq := by exact Aq) ?_
 refine Ap (hq := by exact Aq) ?_
 refine AZ (hq := by exact Aq) ?_
 refine AN (by rfl) (R8 (by exact Dq) (by exact Dn) (by exact Dq) (by exact Dn) (by exact Dp) (by exact Dp) (by rfl) (by (first | (exact ⟨by omega, by omega, by omega, by omega⟩) | exact A3)) ?_)
 try simp only [wB, eq_self, Nat.reduceEqDiff, reduceIte, wL, Int.toNat_natCast, Int.reduceToNat, Nat.reduceAdd, Nat.reduceMul, Nat.reduceSub, Nat.reduceLeDiff, hx]
 refine Bw (hq := by exact Aq) ?_
 refine A4 (hq := by exact Aq) ?_
 refine Ab ?_
 refine h2 _ ?_; clear h2
 refine Aa fun N3 h3 => ?_
 refine Aa fun N4 h4 => ?_
 refine Ik 3 1 rfl ?_
 simp only [List.cons_append, List.nil_append]
 refine Ad ?_
 try refine Ac ?_
 refine At (hq := by exact Aq) ?_
 refine Ap (hq := by exact Aq) ?_
 refine AZ (hq := by exact Aq) ?_
 refine Ae (hq := by exact Aq) ?_
 refine Ab ?_
 refine h4 _ ?_; clear h4
 refine Au ?_
 refine A0 (σ := Nat × Value) (fun s => (fun i v => i ≤ q.length) (s.1) (s.2))
  (fun s => (fun i v => [(2, .ptr 0 0 0), (3, .ptr 1 0 0), (5, .ptr 3 0 0), (16, .d (.sl (rows DR q))), (17, .d (.int .i64 (q.length : Nat))), (18, .d (.int .i64 (i : Nat)))]) (s.1) (s.2))
  (fun s => (fun i v => [some (.one 49 [.d (.sl (rows eI l)), .d (.sl (rows eP P))]), some (.one 25 [.d (.sl (rows DR q))]), some (.vec 27 1 (Ry (Cy l P q i) q.length v)), some (.one 107 [.sl 2 0 q.length]), some (.ob (.bag 3 1 (Sv (Cy l P q i) v)))]) (s.1) (s.2)) (fun s => (fun i v => q.length - i) (s.1) (s.2)) hnp (0, Gd) ?_ [some 0, some 1, some 2, some 3, some 4] ?_ ?_
 dsimp only
 omega
 dsimp only
 refine ⟨by rfl, ?_, ?_⟩
 refine Aj ?_
 ·(repeat' apply And.intro) <;> (first | (first | (with_reducible rfl) | rfl | trivial | omega) | exact As)
 refine Aj ?_
 ·(repeat' apply And.intro) <;> (first | (first | (with_reducible rfl) | rfl | trivial | omega) | exact As)
 rintro ⟨i, v⟩ hinv N5 h5
 dsimp only at hinv ⊢
 have i1 := hinv
 refine Aa fun N6 h6 => ?_
 refine Ad ?_
 try refine Ac ?_
 refine Al (hq := by exact Aq) ?_
 refine Ab ?_
 refine h6 _ ?_; clear h6
 refine Aa fun N7 h7 => ?_
 refine Ai (fun hb8 => ?_) (fun hb8 => ?_)
 have hiq : i < q.length := by have := hb8; (try simp at this); omega
 obtain ⟨x, hxe⟩ := BG (l := q) (i := i) hiq
 have hxd : q.getD i default = x := by rw [List.getD_eq_getElem?_getD, hxe]; rfl
 have hnext := KE (l := l) (P := P) hxd
 have hSl := Eh l P q i
 have hSa := Ga (l := l) (P := P) (q := q) (i := i)
 have hok := Fh hvq hiq hxd
 have hat := OM hvq hiq hxd
 have htl : (DI (Cy l P q i) q.length).length = q.length := H5 (by omega)
 have hti : (DI (Cy l P q i) q.length)[i]? = some [.raw Gd] := by
  have := U0 (S := (Cy l P q i)) (n := q.length) (by omega)
  rwa [hSl] at this
 have hset0 := Ui hti
 have hrec : ∀ v, C4 1 ((DI (Cy l P q i) q.length).set i [.raw v]) = True := fun v => eq_true (Rv (KP _ _))
 have hre0 : C4 1 (DI (Cy l P q i) q.length) = True := eq_true (KP _ _)
 have hsl0 : ∀ v, ((DI (Cy l P q i) q.length).set i [.raw v]).length = q.length := fun v => by rw [List.length_set]; exact htl
 obtain ⟨a, b, c, e⟩ := x
 dsimp only at hok hat
 refine Am ?_
 try simp only [Af]
 refine h7 _ ?_; clear h7
 refine Aa fun N9 h9 => ?_
 refine Au ?_
 refine Aa fun N10 h10 => ?_
 refine Pm 2 4 ((Cy l P q i).length - 1) rfl rfl rfl (by decide) (Uh (n := q.length) (by omega)) ?_
 simp only [Bc, BS, List.set, List.cons_append, List.nil_append, List.mem_cons, List.not_mem_nil, or_false, Nat.reduceEqDiff, Nat.reduceAdd, reduceIte]
 have hx := And.intro @hxe (And.intro @DR.eq_1 hx0)
 refine Ad ?_
 try refine Ac ?_
 refine Ae (hq := by exact Aq) ?_
 refine At (hq := by exact Aq) ?_
 refine Ap (hq := by exact Aq) ?_
 refine Bw (hq := by exact Aq) ?_
 refine Ae (hq := by exact Aq) ?_
 refine A4 (hq := by exact Aq) ?_
 refine Ab ?_
 have hx := hx0
 refine h10 _ ?_; clear h10
 refine Aa fun N11 h11 => ?_
 refine Ad ?_
 try refine Ac ?_
 refine GW (hq := by exact Aq) ?_
 refine Ae (hq := by exact Aq) ?_
 refine Ab ?_
 refine h11 _ ?_; clear h11
 refine Aa fun N12 h12 => ?_
 refine Aa fun N13 h13 => ?_
 refine Ad ?_
 try refine Ac ?_
 refine At (hq := by exact Aq) ?_
 refine Ap (hq := by exact Aq) ?_
 refine Ab ?_
 refine h13 _ ?_; clear h13
 refine Au ?_
 refine Aa fun N14 h14 => ?_
 refine Ad ?_
 try refine Ac ?_
 refine Al (hq := by exact Aq) ?_
 refine Ae (hq := by exact Aq) ?_
 refine Ab ?_
 refine h14 _ ?_; clear h14
 refine Ai (fun hb15 => ?_) (fun hb15 => ?_)
 have hk1 : a = 1 := by have := hb15; (try simp at this); omega
 have hbl := Ht (hok.2.1 hk1)
 have hN := Tv (l := l) (P := P) (b := b) (c := c) (e := e) (S := (Cy l P q i)) hk1
 have hcf : D8 l P b = (0, 0) := by unfold D8; rw [if_neg (by rw [hvf]; simp), if_neg (by omega)]
 have hcr : Ef l P b = CA l P b (b.length - 2) := by unfold Ef; rw [hcf]; rfl
 refine Aa fun N16 h16 => ?_
 refine Ik 3 1 rfl ?_
 simp only [List.cons_append, List.nil_append]
 have hx := And.intro @hcr (And.intro @hcf hx0)
 refine F8 [75] Fw (by kernel_rfl) ?_
 try refine Ac ?_
 refine Ap (hq := by exact Aq) ?_
 refine Ae (hq := by exact Aq) ?_
 refine Ap (hq := by exact Aq) ?_
 refine At (hq := by exact Aq) ?_
 refine Ap (hq := by exact Aq) ?_
 have hc := Ag (E := (Dh.at_ 107)) (f := 75) (sp := Spec.fresh Jl) rfl
 have hs := @Jl.eq_1
 refine B8 (hq := by (first | (exact ⟨rfl, by omega, rfl, by omega, hsm, by omega⟩) | exact A3)) ?_
 refine Ae (hq := by exact Aq) ?_
 iterate 2 refine Dz (hq := by exact Aq) ?_
 refine At (hq := by exact Aq) ?_
 refine AN (by rfl) (DG 6 (by rfl) (by exact Dq) (by exact Dn) (by exact Dq) (by exact Dn) (by simp only [wB, eq_self, Nat.reduceEqDiff, reduceIte]; rfl) (by simp only [wB, eq_self, Nat.reduceEqDiff, reduceIte]; rfl) (by simp only [wB, eq_self, Nat.reduceEqDiff, reduceIte]; rfl) (by exact Dp) (by decide) (by decide) (by decide) hti (by first | exact Nat.le_refl _ | (simp [rows]; done) | exact Aq) fun v1 => ?_)
 try simp only [Bc, BS, List.set, List.cons_append, List.nil_append, List.mem_cons, List.not_mem_nil, or_false, false_or, Nat.reduceEqDiff, Nat.reduceAdd, reduceIte, wB, eq_self, Nat.reduceEqDiff, reduceIte, wL, Int.toNat_natCast, Int.reduceToNat, Nat.reduceAdd, Nat.reduceMul, Nat.reduceSub, Nat.reduceLeDiff, hx]
 refine Ab ?_
 have hx := hx0
 refine h16 _ ?_; clear h16
 refine AF ?_
 simp only [Af, Nat.reduceEqDiff, reduceIte, eq_self]
 refine h9 _ ?_; clear h9
 refine Ad ?_
 try refine Ac ?_
 refine Al (hq := by exact Aq) ?_
 refine Ae (hq := by exact Aq) ?_
 refine Ab ?_
 refine h5 _ ⟨(i + 1, v1), ?_, ?_, [some 0, some 1, some 2, some 3, some 8], ?_⟩
 dsimp only
 omega
 dsimp only
 omega
 dsimp only
 refine ⟨by rfl, ?_, ?_⟩
 refine Aj ?_
 ·(repeat' apply And.intro) <;> (first | (first | (with_reducible rfl) | exact True.intro | trivial | omega | (rw [hnext, Dl, hSl]; done) | (refine congrArg (OB.bag _ _) ?_; rw [hnext, Cg, hN]; simp [rows]; done) | (refine congrArg (OB.bag _ _) ?_; rw [hnext, Cg, hN]; done) | rfl) | exact As)
 refine Aj ?_
 ·(repeat' apply And.intro) <;> (first | (first | (with_reducible rfl) | exact True.intro | trivial | omega | (rw [hnext, Dl, hSl]; done) | (refine congrArg (OB.bag _ _) ?_; rw [hnext, Cg, hN]; simp [rows]; done) | (refine congrArg (OB.bag _ _) ?_; rw [hnext, Cg, hN]; done) | rfl) | exact As)
 have hk1 : ¬a = 1 := by have := hb15; (try simp at this); omega
 refine Aa fun N17 h17 => ?_
 refine Ad ?_
 try refine Ac ?_
 refine Al (hq := by exact Aq) ?_
 refine Ae (hq := by exact Aq) ?_
 refine Ab ?_
 refine h17 _ ?_; clear h17
 refine Ai (fun hb18 => ?_) (fun hb18 => ?_)
 have hk4 : a = 4 := by have := hb18; (try simp at this); omega
 have hN := Tx (l := l) (P := P) (b := b) (c := c) (e := e) (S := (Cy l P q i)) hk4
 refine Aa fun N19 h19 => ?_
 refine Ik 3 1 rfl ?_
 simp only [List.cons_append, List.nil_append]
 refine F8 [76] Fw (by kernel_rfl) ?_
 try refine Ac ?_
 refine Ap (hq := by exact Aq) ?_
 refine Ae (hq := by exact Aq) ?_
 refine At (hq := by exact Aq) ?_
 refine Ap (hq := by exact Aq) ?_
 have hc := Ag (E := (Dh.at_ 107)) (f := 76) (sp := Spec.fresh (Fq 3)) rfl
 have hs := @Fq.eq_1
 refine B8 (hq := by (first | (exact ⟨of_eq_true (BM l), by rw [Be]; omega⟩) | exact A3)) ?_
 refine At (hq := by exact Aq) ?_
 refine AN (by rfl) (DG 6 (by rfl) (by exact Dq) (by exact Dn) (by exact Dq) (by exact Dn) (by simp only [wB, eq_self, Nat.reduceEqDiff, reduceIte]; rfl) (by simp only [wB, eq_self, Nat.reduceEqDiff, reduceIte]; rfl) (by simp only [wB, eq_self, Nat.reduceEqDiff, reduceIte]; rfl) (by exact Dp) (by decide) (by decide) (by decide) hti (by first | exact Nat.le_refl _ | (simp [rows]; done) | exact Aq) fun v2 => ?_)
 try simp only [Bc, BS, List.set, List.cons_append, List.nil_append, List.mem_cons, List.not_mem_nil, or_false, false_or, Nat.reduceEqDiff, Nat.reduceAdd, reduceIte, wB, eq_self, Nat.reduceEqDiff, reduceIte, wL, Int.toNat_natCast, Int.reduceToNat, Nat.reduceAdd, Nat.reduceMul, Nat.reduceSub, Nat.reduceLeDiff, hx]
 refine Ab ?_
 refine h19 _ ?_; clear h19
 refine AF ?_
 simp only [Af, Nat.reduceEqDiff, reduceIte, eq_self]
 refine h9 _ ?_; clear h9
 refine Ad ?_
 try refine Ac ?_
 refine Al (hq := by exact Aq) ?_
 refine Ae (hq := by exact Aq) ?_
 refine Ab ?_
 refine h5 _ ⟨(i + 1, v2), ?_, ?_, [some 0, some 1, some 2, some 3, some 8], ?_⟩
 dsimp only
 omega
 dsimp only
 omega
 dsimp only
 refine ⟨by rfl, ?_, ?_⟩
 refine Aj ?_
 ·(repeat' apply And.intro) <;> (first | (first | (with_reducible rfl) | exact True.intro | trivial | omega | (rw [hnext, Dl, hSl]; done) | (refine congrArg (OB.bag _ _) ?_; rw [hnext, Cg, hN]; simp [rows]; done) | (refine congrArg (OB.bag _ _) ?_; rw [hnext, Cg, hN]; done) | rfl) | exact As)
 refine Aj ?_
 ·(repeat' apply And.intro) <;> (first | (first | (with_reducible rfl) | exact True.intro | trivial | omega | (rw [hnext, Dl, hSl]; done) | (refine congrArg (OB.bag _ _) ?_; rw [hnext, Cg, hN]; simp [rows]; done) | (refine congrArg (OB.bag _ _) ?_; rw [hnext, Cg, hN]; done) | rfl) | exact As)
 have hk4 : ¬a = 4 := by have := hb18; (try simp at this); omega
 have hk23 : a = 2 ∨ a = 3 := by omega
 obtain ⟨hc0, hci, he0, hei⟩ := hat hk1
 obtain ⟨sx, hsx⟩ := BG (l := (Cy l P q i)) (i := c.toNat) (by omega)
 obtain ⟨sy, hsy⟩ := BG (l := (Cy l P q i)) (i := e.toNat) (by omega)
 have hxl := hSa sx (AE hsx)
 have hyl := hSa sy (AE hsy)
 have hN := (Tw (l := l) (P := P) (b := b) hk1 hk4 hsx hsy).trans (Nf l a sx sy).symm
 have hga := fun v => Iy (n := q.length) (i := i) (x := [.raw v]) hsx (by omega)
 have hgb := fun v => Iy (n := q.length) (i := i) (x := [.raw v]) hsy (by omega)
 have hown := fun v => Iz (S := (Cy l P q i)) (n := q.length) (i := i) (x := [.raw v]) htl hiq
 refine Am ?_
 try simp only [Af]
 refine h12 _ ?_; clear h12
 refine Aa fun N20 h20 => ?_
 refine Pn 3 1 rfl ?_
 simp only [List.cons_append, List.nil_append]
 refine Ad ?_
 try refine Ac ?_
 refine At (hq := by exact Aq) ?_
 refine Ap (hq := by exact Aq) ?_
 refine AZ (hq := by exact Aq) ?_
 refine Ae (hq := by exact Aq) ?_
 refine Ab ?_
 refine h20 _ ?_; clear h20
 refine Au ?_
 refine A0 (σ := Nat × Value) (fun s => (fun j u => j ≤ l.length) (s.1) (s.2))
  (fun s => (fun j u => [(2, .ptr 0 0 0), (3, .ptr 1 0 0), (5, .ptr 3 0 0), (6, .d (.int .i64 (i : Nat))), (7, .ptr 4 0 0), (8, .clo (.func 74) [.ptr 3 0 0]), (16, .d (.sl (rows DR q))), (17, .d (.int .i64 (q.length : Nat))), (18, .d (.int .i64 (i : Nat))), (47, .d (.sl (rows eI l))), (48, .d (.int .i64 (l.length : Nat))), (49, .d (.int .i64 (j : Nat)))]) (s.1) (s.2))
  (fun s => (fun j u => [some (.one 49 [.d (.sl (rows eI l)), .d (.sl (rows eP P))]), some (.one 25 [.d (.sl (rows DR q))]), some (.vec 27 1 ((DI (Cy l P q i) q.length).set i [.raw u])), some (.one 107 [.sl 2 0 q.length]), some (.one 55 [.d (.int .i64 a), .d (.str b), .d (.int .i64 c), .d (.int .i64 e)]), some (.ob (.bag 3 1 [(u, rows eI (ET l a sx sy j))]))]) (s.1) (s.2)) (fun s => (fun j u => l.length - j) (s.1) (s.2)) hnp (0, Gd) ?_ [some 0, some 1, some 2, some 3, some 5, some 6] ?_ ?_
 dsimp only
 omega
 dsimp only
 refine ⟨by rfl, ?_, ?_⟩
 refine Aj ?_
 ·(repeat' apply And.intro) <;> (first | (first | (with_reducible rfl) | (rw [hset0]; done) | rfl | trivial | omega | exact congrArg (OB.bag _ _) (by rw [Tu]; rfl)) | exact As)
 refine Aj ?_
 ·(repeat' apply And.intro) <;> (first | (first | (with_reducible rfl) | (rw [hset0]; done) | rfl | trivial | omega | exact congrArg (OB.bag _ _) (by rw [Tu]; rfl)) | exact As)
 rintro ⟨j, u⟩ hinv N21 h21
 dsimp only at hinv ⊢
 have j1 := hinv
 refine Aa fun N22 h22 => ?_
 refine Ad ?_
 try refine Ac ?_
 refine Al (hq := by exact Aq) ?_
 refine Ab ?_
 refine h22 _ ?_; clear h22
 refine Aa fun N23 h23 => ?_
 refine Ai (fun hb24 => ?_) (fun hb24 => ?_)
 have hjl : j < l.length := by have := hb24; (try simp at this); omega
 obtain ⟨t, hte⟩ := BG (l := l) (i := j) hjl
 have hkl := Hr l a sx sy j
 have hstep := KD (kd := a) (x := sx) (y := sy) hte
 have hg1 := hga u
 have hg2 := hgb u
 have hd1 : Wp ((DI (Cy l P q i) q.length).set i [.raw u]) c.toNat = sx := S9 hg1
 have hd2 : Wp ((DI (Cy l P q i) q.length).set i [.raw u]) e.toNat = sy := S9 hg2
 have hu := hown u
 refine Am ?_
 try simp only [Af]
 refine h23 _ ?_; clear h23
 refine Aa fun N25 h25 => ?_
 refine Au ?_
 refine Aa fun N26 h26 => ?_
 have hx := And.intro @hte (And.intro @eI.eq_1 hx0)
 refine Ad ?_
 try refine Ac ?_
 refine At (hq := by exact Aq) ?_
 refine Ap (hq := by exact Aq) ?_
 refine Ae (hq := by exact Aq) ?_
 refine Ab ?_
 have hx := hx0
 refine h26 _ ?_; clear h26
 refine Gm (σ := Bool) (fun s => (fun w => w = LB a (decide (t ∈ sx)) (decide (t ∈ sy))) s)
  (fun s => (fun w => [(2, .ptr 0 0 0), (3, .ptr 1 0 0), (5, .ptr 3 0 0), (6, .d (.int .i64 (i : Nat))), (7, .ptr 4 0 0), (8, .clo (.func 74) [.ptr 3 0 0]), (10, .d (.int .i64 t)), (16, .d (.sl (rows DR q))), (17, .d (.int .i64 (q.length : Nat))), (18, .d (.int .i64 (i : Nat))), (47, .d (.sl (rows eI l))), (48, .d (.int .i64 (l.length : Nat))), (49, .d (.int .i64 (j : Nat))), (88, .d (.bool w))]) s)
  (fun s => (fun w => [some (.one 49 [.d (.sl (rows eI l)), .d (.sl (rows eP P))]), some (.one 25 [.d (.sl (rows DR q))]), some (.vec 27 1 ((DI (Cy l P q i) q.length).set i [.raw u])), some (.one 107 [.sl 2 0 q.length]), some (.one 55 [.d (.int .i64 a), .d (.str b), .d (.int .i64 c), .d (.int .i64 e)]), some (.ob (.bag 3 1 [(u, rows eI (ET l a sx sy j))]))]) s) hnp ?_ ?_
 rintro w hinv
 dsimp only at hinv ⊢
 have hwv := hinv
 refine Ai (fun hb28 => ?_) (fun hb28 => ?_)
 have hks : ET l a sx sy (j + 1) = ET l a sx sy j ++ [t] := by rw [hstep, if_pos (by rw [← hwv]; exact hb28)]
 have hx := And.intro @hu (And.intro @hsl0 hx0)
 refine G1 [] (.seq [1, 2, 3, 4, 5, 6] (.alt 0 (.seq [7, 8, 9, 10] .nil) (.alt 7 (.alt 0 (.seq [8, 9, 10] .nil) (.alt 8 (.seq [0, 9, 10] .nil) .nil)) .nil))) Fw (by kernel_rfl) ?_
 refine Bu ?_
 simp only [Ao, Ak]
 try refine Ac ?_
 refine Ae (hq := by exact Aq) ?_
 refine Ap (hq := by exact Aq) ?_
 refine Ae (hq := by exact Aq) ?_
 refine At (hq := by exact Aq) ?_
 refine Ap (hq := by exact Aq) ?_
 refine Ae (hq := by exact Aq) ?_
 refine Ab ?_
 refine AX ?_ ?_
 simp only [Ao, Ak]
 try refine Ac ?_
 refine Ap (hq := by exact Aq) ?_
 refine Ab ?_
 refine Bu ?_
 simp only [Ao, Ak]
 try refine Ac ?_
 refine FH (hq := by exact Aq) ?_
 refine AN (by rfl) (Gk 5 (by rfl) (m1 := []) (m2 := []) (by exact Dq) (by exact Dn) (by exact Dq) (by exact Dn) (by exact Dp) (by exact Dp) (by simp only [wB, eq_self, Nat.reduceEqDiff, reduceIte]; rfl) rfl (by simp only [Bc, BS, List.set, List.cons_append, List.nil_append, List.mem_cons, List.not_mem_nil, or_false, false_or, Nat.reduceEqDiff, Nat.reduceAdd, reduceIte]; rfl) (by simp only [Cj, wB, eq_self, Nat.reduceEqDiff, reduceIte, wL, Int.toNat_natCast, Int.reduceToNat, Nat.reduceAdd, Nat.reduceMul, Nat.reduceSub, Nat.reduceLeDiff, hx]; rfl) (by decide) (by (first | (first | exact True.intro | (refine ⟨?_, ?_⟩; (intro x hx; simp at hx; subst hx; rfl); simp [rows]; omega) | (unfold CL; omega) | omega) | exact A3)) (by (first | (first | exact True.intro | (refine ⟨?_, ?_⟩; (intro x hx; simp at hx; subst hx; rfl); simp [rows]; omega) | (unfold CL; omega) | omega) | exact A3)) ?_)
 try simp only [Bc, BS, List.set, List.cons_append, List.nil_append, List.mem_cons, List.not_mem_nil, or_false, false_or, Nat.reduceEqDiff, Nat.reduceAdd, reduceIte, wB, eq_self, Nat.reduceEqDiff, reduceIte, wL, Int.toNat_natCast, Int.reduceToNat, Nat.reduceAdd, Nat.reduceMul, Nat.reduceSub, Nat.reduceLeDiff, hx]
 refine At (hq := by exact Aq) ?_
 refine AN (by rfl) (DG 8 (by rfl) (by exact Dq) (by exact Dn) (by exact Dq) (by exact Dn) (by simp only [wB, eq_self, Nat.reduceEqDiff, reduceIte]; rfl) (by simp only [wB, eq_self, Nat.reduceEqDiff, reduceIte]; rfl) (by simp only [wB, eq_self, Nat.reduceEqDiff, reduceIte]; rfl) (by exact Dp) (by decide) (by decide) (by decide) hu (by first | exact Nat.le_refl _ | (simp [rows]; done) | exact Aq) fun u1 => ?_)
 try simp only [Bc, BS, List.set, List.cons_append, List.nil_append, List.mem_cons, List.not_mem_nil, or_false, false_or, Nat.reduceEqDiff, Nat.reduceAdd, reduceIte, wB, eq_self, Nat.reduceEqDiff, reduceIte, wL, Int.toNat_natCast, Int.reduceToNat, Nat.reduceAdd, Nat.reduceMul, Nat.reduceSub, Nat.reduceLeDiff, hx]
 refine Ab ?_
 refine BO ?_
 have hx := hx0
 refine h25 _ ?_; clear h25
 refine Ad ?_
 try refine Ac ?_
 refine Al (hq := by exact Aq) ?_
 refine Ae (hq := by exact Aq) ?_
 refine Ab ?_
 refine h21 _ ⟨(j + 1, u1), ?_, ?_, [some 0, some 1, some 2, some 3, some 4, some 10], ?_⟩
 dsimp only
 omega
 dsimp only
 omega
 dsimp only
 refine ⟨by rfl, ?_, ?_⟩
 refine Aj ?_
 ·(repeat' apply And.intro) <;> (first | (first | (with_reducible rfl) | exact True.intro | trivial | omega | (rw [List.set_set]; done) | (refine congrArg (OB.bag _ _) ?_; rw [hks, List.take_of_length_le (by simp [rows])]; simp [rows, eI]; done) | (refine congrArg (OB.bag _ _) ?_; rw [hks]; done) | rfl) | exact As)
 refine Aj ?_
 ·(repeat' apply And.intro) <;> (first | (first | (with_reducible rfl) | exact True.intro | trivial | omega | (rw [List.set_set]; done) | (refine congrArg (OB.bag _ _) ?_; rw [hks, List.take_of_length_le (by simp [rows])]; simp [rows, eI]; done) | (refine congrArg (OB.bag _ _) ?_; rw [hks]; done) | rfl) | exact As)
 refine AX ?_ ?_
 simp only [Ao, Ak]
 try refine Ac ?_
 refine FH (hq := by exact Aq) ?_
 refine Ab ?_
 refine AX ?_ ?_
 simp only [Ao, Ak]
 try refine Ac ?_
 refine Ap (hq := by exact Aq) ?_
 refine Ab ?_
 refine Bu ?_
 simp only [Ao, Ak]
 try refine Ac ?_
 refine AN (by rfl) (Gk 5 (by rfl) (m1 := []) (m2 := []) (by exact Dq) (by exact Dn) (by exact Dq) (by exact Dn) (by exact Dp) (by exact Dp) (by simp only [wB, eq_self, Nat.reduceEqDiff, reduceIte]; rfl) rfl (by simp only [Bc, BS, List.set, List.cons_append, List.nil_append, List.mem_cons, List.not_mem_nil, or_false, false_or, Nat.reduceEqDiff, Nat.reduceAdd, reduceIte]; rfl) (by simp only [Cj, wB, eq_self, Nat.reduceEqDiff, reduceIte, wL, Int.toNat_natCast, Int.reduceToNat, Nat.reduceAdd, Nat.reduceMul, Nat.reduceSub, Nat.reduceLeDiff, hx]; rfl) (by decide) (by (first | (first | exact True.intro | (refine ⟨?_, ?_⟩; (intro x hx; simp at hx; subst hx; rfl); simp [rows]; omega) | (unfold CL; omega) | omega) | exact A3)) (by (first | (first | exact True.intro | (refine ⟨?_, ?_⟩; (intro x hx; simp at hx; subst hx; rfl); simp [rows]; omega) | (unfold CL; omega) | omega) | exact A3)) ?_)
 try simp only [Bc, BS, List.set, List.cons_append, List.nil_append, List.mem_cons, List.not_mem_nil, or_false, false_or, Nat.reduceEqDiff, Nat.reduceAdd, reduceIte, wB, eq_self, Nat.reduceEqDiff, reduceIte, wL, Int.toNat_natCast, Int.reduceToNat, Nat.reduceAdd, Nat.reduceMul, Nat.reduceSub, Nat.reduceLeDiff, hx]
 refine At (hq := by exact Aq) ?_
 refine AN (by rfl) (DG 8 (by rfl) (by exact Dq) (by exact Dn) (by exact Dq) (by exact Dn) (by simp only [wB, eq_self, Nat.reduceEqDiff, reduceIte]; rfl) (by simp only [wB, eq_self, Nat.reduceEqDiff, reduceIte]; rfl) (by simp only [wB, eq_self, Nat.reduceEqDiff, reduceIte]; rfl) (by exact Dp) (by decide) (by decide) (by decide) hu (by first | exact Nat.le_refl _ | (simp [rows]; done) | exact Aq) fun u1 => ?_)
 try simp only [Bc, BS, List.set, List.cons_append, List.nil_append, List.mem_cons, List.not_mem_nil, or_false, false_or, Nat.reduceEqDiff, Nat.reduceAdd, reduceIte, wB, eq_self, Nat.reduceEqDiff, reduceIte, wL, Int.toNat_natCast, Int.reduceToNat, Nat.reduceAdd, Nat.reduceMul, Nat.reduceSub, Nat.reduceLeDiff, hx]
 refine Ab ?_
 refine BO ?_
 have hx := hx0
 refine h25 _ ?_; clear h25
 refine Ad ?_
 try refine Ac ?_
 refine Al (hq := by exact Aq) ?_
 refine Ae (hq := by exact Aq) ?_
 refine Ab ?_
 refine h21 _ ⟨(j + 1, u1), ?_, ?_, [some 0, some 1, some 2, some 3, some 4, some 10], ?_⟩
 dsimp only
 omega
 dsimp only
 omega
 dsimp only
 refine ⟨by rfl, ?_, ?_⟩
 refine Aj ?_
 ·(repeat' apply And.intro) <;> (first | (first | (with_reducible rfl) | exact True.intro | trivial | omega | (rw [List.set_set]; done) | (refine congrArg (OB.bag _ _) ?_; rw [hks, List.take_of_length_le (by simp [rows])]; simp [rows, eI]; done) | (refine congrArg (OB.bag _ _) ?_; rw [hks]; done) | rfl) | exact As)
 refine Aj ?_
 ·(repeat' apply And.intro) <;> (first | (first | (with_reducible rfl) | exact True.intro | trivial | omega | (rw [List.set_set]; done) | (refine congrArg (OB.bag _ _) ?_; rw [hks, List.take_of_length_le (by simp [rows])]; simp [rows, eI]; done) | (refine congrArg (OB.bag _ _) ?_; rw [hks]; done) | rfl) | exact As)
 refine AX ?_ ?_
 simp only [Ao, Ak]
 try refine Ac ?_
 refine AN (by rfl) (Gk 5 (by rfl) (m1 := []) (m2 := []) (by exact Dq) (by exact Dn) (by exact Dq) (by exact Dn) (by exact Dp) (by exact Dp) (by simp only [wB, eq_self, Nat.reduceEqDiff, reduceIte]; rfl) rfl (by simp only [Bc, BS, List.set, List.cons_append, List.nil_append, List.mem_cons, List.not_mem_nil, or_false, false_or, Nat.reduceEqDiff, Nat.reduceAdd, reduceIte]; rfl) (by simp only [Cj, wB, eq_self, Nat.reduceEqDiff, reduceIte, wL, Int.toNat_natCast, Int.reduceToNat, Nat.reduceAdd, Nat.reduceMul, Nat.reduceSub, Nat.reduceLeDiff, hx]; rfl) (by decide) (by (first | (first | exact True.intro | (refine ⟨?_, ?_⟩; (intro x hx; simp at hx; subst hx; rfl); simp [rows]; omega) | (unfold CL; omega) | omega) | exact A3)) (by (first | (first | exact True.intro | (refine ⟨?_, ?_⟩; (intro x hx; simp at hx; subst hx; rfl); simp [rows]; omega) | (unfold CL; omega) | omega) | exact A3)) ?_)
 try simp only [Bc, BS, List.set, List.cons_append, List.nil_append, List.mem_cons, List.not_mem_nil, or_false, false_or, Nat.reduceEqDiff, Nat.reduceAdd, reduceIte, wB, eq_self, Nat.reduceEqDiff, reduceIte, wL, Int.toNat_natCast, Int.reduceToNat, Nat.reduceAdd, Nat.reduceMul, Nat.reduceSub, Nat.reduceLeDiff, hx]
 refine Ab ?_
 refine Bu ?_
 simp only [Ao, Ak]
 try refine Ac ?_
 refine Ap (hq := by exact Aq) ?_
 refine At (hq := by exact Aq) ?_
 refine AN (by rfl) (DG 8 (by rfl) (by exact Dq) (by exact Dn) (by exact Dq) (by exact Dn) (by simp only [wB, eq_self, Nat.reduceEqDiff, reduceIte]; rfl) (by simp only [wB, eq_self, Nat.reduceEqDiff, reduceIte]; rfl) (by simp only [wB, eq_self, Nat.reduceEqDiff, reduceIte]; rfl) (by exact Dp) (by decide) (by decide) (by decide) hu (by first | exact Nat.le_refl _ | (simp [rows]; done) | exact Aq) fun u1 => ?_)
 try simp only [Bc, BS, List.set, List.cons_append, List.nil_append, List.mem_cons, List.not_mem_nil, or_false, false_or, Nat.reduceEqDiff, Nat.reduceAdd, reduceIte, wB, eq_self, Nat.reduceEqDiff, reduceIte, wL, Int.toNat_natCast, Int.reduceToNat, Nat.reduceAdd, Nat.reduceMul, Nat.reduceSub, Nat.reduceLeDiff, hx]
 refine Ab ?_
 refine BO ?_
 have hx := hx0
 refine h25 _ ?_; clear h25
 refine Ad ?_
 try refine Ac ?_
 refine Al (hq := by exact Aq) ?_
 refine Ae (hq := by exact Aq) ?_
 refine Ab ?_
 refine h21 _ ⟨(j + 1, u1), ?_, ?_, [some 0, some 1, some 2, some 3, some 4, some 10], ?_⟩
 dsimp only
 omega
 dsimp only
 omega
 dsimp only
 refine ⟨by rfl, ?_, ?_⟩
 refine Aj ?_
 ·(repeat' apply And.intro) <;> (first | (first | (with_reducible rfl) | exact True.intro | trivial | omega | (rw [List.set_set]; done) | (refine congrArg (OB.bag _ _) ?_; rw [hks, List.take_of_length_le (by simp [rows])]; simp [rows, eI]; done) | (refine congrArg (OB.bag _ _) ?_; rw [hks]; done) | rfl) | exact As)
 refine Aj ?_
 ·(repeat' apply And.intro) <;> (first | (first | (with_reducible rfl) | exact True.intro | trivial | omega | (rw [List.set_set]; done) | (refine congrArg (OB.bag _ _) ?_; rw [hks, List.take_of_length_le (by simp [rows])]; simp [rows, eI]; done) | (refine congrArg (OB.bag _ _) ?_; rw [hks]; done) | rfl) | exact As)
 exact C8
 exact C8
 have hks : ET l a sx sy (j + 1) = ET l a sx sy j := by rw [hstep, if_neg (by rw [← hwv]; have := hb28; simpa using this), List.append_nil]
 refine Am ?_
 try simp only [Af]
 refine h25 _ ?_; clear h25
 refine Ad ?_
 try refine Ac ?_
 refine Al (hq := by exact Aq) ?_
 refine Ae (hq := by exact Aq) ?_
 refine Ab ?_
 refine h21 _ ⟨(j + 1, u), ?_, ?_, [some 0, some 1, some 2, some 3, some 4, some 5], ?_⟩
 dsimp only
 omega
 dsimp only
 omega
 dsimp only
 refine ⟨by rfl, ?_, ?_⟩
 refine Aj ?_
 ·(repeat' apply And.intro) <;> (first | (first | (with_reducible rfl) | exact True.intro | trivial | omega | (rw [List.set_set]; done) | (refine congrArg (OB.bag _ _) ?_; rw [hks, List.take_of_length_le (by simp [rows])]; simp [rows, eI]; done) | (refine congrArg (OB.bag _ _) ?_; rw [hks]; done) | rfl) | exact As)
 refine Aj ?_
 ·(repeat' apply And.intro) <;> (first | (first | (with_reducible rfl) | exact True.intro | trivial | omega | (rw [List.set_set]; done) | (refine congrArg (OB.bag _ _) ?_; rw [hks, List.take_of_length_le (by simp [rows])]; simp [rows, eI]; done) | (refine congrArg (OB.bag _ _) ?_; rw [hks]; done) | rfl) | exact As)
 intro N27 h27
 rcases Vb hk23 t sx sy with ⟨rfl, m1, m2⟩ | ⟨rfl, m1, m2⟩ | ⟨rfl, m1, m2⟩ | ⟨rfl, m1, m2⟩ | ⟨rfl, m1, m2⟩
 skip
 have hx := And.intro @hd1 (And.intro @hd2 (And.intro @hsl0 (And.intro @m1 (And.intro @m2 hx0))))
 refine Ad ?_
 try refine Ac ?_
 refine At (hq := by exact Aq) ?_
 refine Ap (hq := by exact Aq) ?_
 refine Al (hq := by exact Aq) ?_
 refine Ae (hq := by exact Aq) ?_
 refine Cl (hq := by exact Aq) ?_
 refine CG (hq := by exact Aq) ?_
 refine CF (hq := by exact Aq) ?_
 refine Cl (hq := by exact Aq) ?_
 have hc := (show ((Dh.at_ 107)).Γ 74 = some (Spec.gen Fp) from rfl)
 have hs := (@Fp.eq_1)
 refine ND (hq := by (first | ((repeat' apply And.intro) <;> first | rfl | exact (hsl0 u).symm | omega | exact hg1 | exact hg2 | exact True.intro) | exact A3)) ?_
 refine A7 (hq := by exact Aq) ?_
 refine Ae (hq := by exact Aq) ?_
 refine Cl (hq := by exact Aq) ?_
 refine CG (hq := by exact Aq) ?_
 refine CF (hq := by exact Aq) ?_
 refine Cl (hq := by exact Aq) ?_
 have hc := (show ((Dh.at_ 107)).Γ 74 = some (Spec.gen Fp) from rfl)
 have hs := (@Fp.eq_1)
 refine ND (hq := by (first | ((repeat' apply And.intro) <;> first | rfl | exact (hsl0 u).symm | omega | exact hg1 | exact hg2 | exact True.intro) | exact A3)) ?_
 refine A7 (hq := by exact Aq) ?_
 refine Ae (hq := by exact Aq) ?_
 refine Ar ?_ ?_
 focus (exact AP)
 refine Ar ?_ ?_
 focus (exact AP)
 refine Ar ?_ ?_
 focus (exact AP)
 refine Ar ?_ ?_
 focus (exact AP)
 refine Ar ?_ ?_
 focus (exact AP)
 refine Ar ?_ ?_
 focus (exact AP)
 refine Ar ?_ ?_
 focus (exact AP)
 refine Ar ?_ ?_
 focus (exact AP)
 refine Ar ?_ ?_
 focus (exact AP)
 refine Ar ?_ ?_
 focus (exact AP)
 refine Ar ?_ ?_
 focus (exact AP)
 refine Ar ?_ ?_
 focus (exact AP)
 refine Ar ?_ ?_
 focus (exact AP)
 refine Ar ?_ ?_
 focus (exact AP)
 refine Ar ?_ ?_
 focus (exact AP)
 refine Ar ?_ ?_
 focus (exact AP)
 refine Ar ?_ ?_
 focus (exact AP)
 refine A7 (hq := by exact Aq) ?_
 refine Ab ?_
 have hx := hx0
 refine h27 _ ⟨true, ?_, [some 0, some 1, some 2, some 3, some 4, some 5], ?_⟩
 dsimp only
 rw [m1, m2]; rfl
 dsimp only
 refine ⟨by rfl, ?_, ?_⟩
 refine Aj ?_
 ·(repeat' apply And.intro) <;> (first | (first | (with_reducible rfl) | exact True.intro | trivial | rfl | exact Or.inl rfl) | exact As)
 refine Aj ?_
 ·(repeat' apply And.intro) <;> (first | (first | (with_reducible rfl) | exact True.intro | trivial | rfl | exact Or.inl rfl) | exact As)
 skip
 have hx := And.intro @hd1 (And.intro @hd2 (And.intro @hsl0 (And.intro @m1 (And.intro @m2 hx0))))
 refine Ad ?_
 try refine Ac ?_
 refine At (hq := by exact Aq) ?_
 refine Ap (hq := by exact Aq) ?_
 refine Al (hq := by exact Aq) ?_
 refine Ae (hq := by exact Aq) ?_
 refine Cl (hq := by exact Aq) ?_
 refine CG (hq := by exact Aq) ?_
 refine CF (hq := by exact Aq) ?_
 refine Cl (hq := by exact Aq) ?_
 have hc := (show ((Dh.at_ 107)).Γ 74 = some (Spec.gen Fp) from rfl)
 have hs := (@Fp.eq_1)
 refine ND (hq := by (first | ((repeat' apply And.intro) <;> first | rfl | exact (hsl0 u).symm | omega | exact hg1 | exact hg2 | exact True.intro) | exact A3)) ?_
 refine A7 (hq := by exact Aq) ?_
 refine Ae (hq := by exact Aq) ?_
 refine Cl (hq := by exact Aq) ?_
 refine CG (hq := by exact Aq) ?_
 refine CF (hq := by exact Aq) ?_
 refine Cl (hq := by exact Aq) ?_
 have hc := (show ((Dh.at_ 107)).Γ 74 = some (Spec.gen Fp) from rfl)
 have hs := (@Fp.eq_1)
 refine ND (hq := by (first | ((repeat' apply And.intro) <;> first | rfl | exact (hsl0 u).symm | omega | exact hg1 | exact hg2 | exact True.intro) | exact A3)) ?_
 refine A7 (hq := by exact Aq) ?_
 refine Ae (hq := by exact Aq) ?_
 refine CG (hq := by exact Aq) ?_
 refine CF (hq := by exact Aq) ?_
 refine DW (hq := by exact Aq) ?_
 refine Cl (hq := by exact Aq) ?_
 refine Ar ?_ ?_
 focus (exact AP)
 refine Ar ?_ ?_
 focus (exact AP)
 refine Ar ?_ ?_
 focus (exact AP)
 refine Ar ?_ ?_
 focus (exact AP)
 refine Ar ?_ ?_
 focus (exact AP)
 refine Ar ?_ ?_
 focus (exact AP)
 refine Ar ?_ ?_
 focus (exact AP)
 refine Ar ?_ ?_
 focus (exact AP)
 refine Ar ?_ ?_
 focus (exact AP)
 refine Ar ?_ ?_
 focus (exact AP)
 refine Ar ?_ ?_
 focus (exact AP)
 refine Ar ?_ ?_
 focus (exact AP)
 refine H6 (hq := by exact Aq) ?_
 refine A7 (hq := by exact Aq) ?_
 refine Ab ?_
 have hx := hx0
 refine h27 _ ⟨false, ?_, [some 0, some 1, some 2, some 3, some 4, some 5], ?_⟩
 dsimp only
 rw [m1, m2]; rfl
 dsimp only
 refine ⟨by rfl, ?_, ?_⟩
 refine Aj ?_
 ·(repeat' apply And.intro) <;> (first | (first | (with_reducible rfl) | exact True.intro | trivial | rfl | exact Or.inl rfl) | exact As)
 refine Aj ?_
 ·(repeat' apply And.intro) <;> (first | (first | (with_reducible rfl) | exact True.intro | trivial | rfl | exact Or.inl rfl) | exact As)
 skip
 have hx := And.intro @hd1 (And.intro @hd2 (And.intro @hsl0 (And.intro @m1 (And.intro @m2 hx0))))
 refine Ad ?_
 try refine Ac ?_
 refine At (hq := by exact Aq) ?_
 refine Ap (hq := by exact Aq) ?_
 refine Al (hq := by exact Aq) ?_
 refine Ae (hq := by exact Aq) ?_
 refine Cl (hq := by exact Aq) ?_
 refine CG (hq := by exact Aq) ?_
 refine CF (hq := by exact Aq) ?_
 refine Cl (hq := by exact Aq) ?_
 have hc := (show ((Dh.at_ 107)).Γ 74 = some (Spec.gen Fp) from rfl)
 have hs := (@Fp.eq_1)
 refine ND (hq := by (first | ((repeat' apply And.intro) <;> first | rfl | exact (hsl0 u).symm | omega | exact hg1 | exact hg2 | exact True.intro) | exact A3)) ?_
 refine A7 (hq := by exact Aq) ?_
 refine Ae (hq := by exact Aq) ?_
 refine Ar ?_ ?_
 focus (exact AP)
 refine Ar ?_ ?_
 focus (exact AP)
 refine Ar ?_ ?_
 focus (exact AP)
 refine Ar ?_ ?_
 focus (exact AP)
 refine Ar ?_ ?_
 focus (exact AP)
 refine A7 (hq := by exact Aq) ?_
 refine Ae (hq := by exact Aq) ?_
 refine CG (hq := by exact Aq) ?_
 refine CF (hq := by exact Aq) ?_
 refine DW (hq := by exact Aq) ?_
 refine Cl (hq := by exact Aq) ?_
 refine Ar ?_ ?_
 focus (exact AP)
 refine Ar ?_ ?_
 focus (exact AP)
 refine Ar ?_ ?_
 focus (exact AP)
 refine Ar ?_ ?_
 focus (exact AP)
 refine Ar ?_ ?_
 focus (exact AP)
 refine Ar ?_ ?_
 focus (exact AP)
 refine Ar ?_ ?_
 focus (exact AP)
 refine Ar ?_ ?_
 focus (exact AP)
 refine Ar ?_ ?_
 focus (exact AP)
 refine Ar ?_ ?_
 focus (exact AP)
 refine Ar ?_ ?_
 focus (exact AP)
 refine Ar ?_ ?_
 focus (exact AP)
 refine H6 (hq := by exact Aq) ?_
 refine A7 (hq := by exact Aq) ?_
 refine Ab ?_
 have hx := hx0
 refine h27 _ ⟨false, ?_, [some 0, some 1, some 2, some 3, some 4, some 5], ?_⟩
 dsimp only
 rw [m1]; rfl
 dsimp only
 refine ⟨by rfl, ?_, ?_⟩
 refine Aj ?_
 ·(repeat' apply And.intro) <;> (first | (first | (with_reducible rfl) | exact True.intro | trivial | rfl | exact Or.inl rfl) | exact As)
 refine Aj ?_
 ·(repeat' apply And.intro) <;> (first | (first | (with_reducible rfl) | exact True.intro | trivial | rfl | exact Or.inl rfl) | exact As)
 skip
 have hx := And.intro @hd1 (And.intro @hd2 (And.intro @hsl0 (And.intro @m1 (And.intro @m2 hx0))))
 refine Ad ?_
 try refine Ac ?_
 refine At (hq := by exact Aq) ?_
 refine Ap (hq := by exact Aq) ?_
 refine Al (hq := by exact Aq) ?_
 refine Ae (hq := by exact Aq) ?_
 refine Ar ?_ ?_
 focus (exact AP)
 refine Ar ?_ ?_
 focus (exact AP)
 refine Ar ?_ ?_
 focus (exact AP)
 refine Ar ?_ ?_
 focus (exact AP)
 refine Ar ?_ ?_
 focus (exact AP)
 refine A7 (hq := by exact Aq) ?_
 refine Ae (hq := by exact Aq) ?_
 refine Ar ?_ ?_
 focus (exact AP)
 refine Ar ?_ ?_
 focus (exact AP)
 refine Ar ?_ ?_
 focus (exact AP)
 refine Ar ?_ ?_
 focus (exact AP)
 refine Ar ?_ ?_
 focus (exact AP)
 refine A7 (hq := by exact Aq) ?_
 refine Ae (hq := by exact Aq) ?_
 refine CG (hq := by exact Aq) ?_
 refine CF (hq := by exact Aq) ?_
 refine DW (hq := by exact Aq) ?_
 iterate 2 refine Cl (hq := by exact Aq) ?_
 refine CG (hq := by exact Aq) ?_
 refine CF (hq := by exact Aq) ?_
 refine Cl (hq := by exact Aq) ?_
 have hc := (show ((Dh.at_ 107)).Γ 74 = some (Spec.gen Fp) from rfl)
 have hs := (@Fp.eq_1)
 refine ND (hq := by (first | ((repeat' apply And.intro) <;> first | rfl | exact (hsl0 u).symm | omega | exact hg1 | exact hg2 | exact True.intro) | exact A3)) ?_
 refine Cl (hq := by exact Aq) ?_
 refine Ar ?_ ?_
 focus (exact AP)
 refine Ar ?_ ?_
 focus (exact AP)
 refine Ar ?_ ?_
 focus (exact AP)
 refine Ar ?_ ?_
 focus (exact AP)
 refine Ar ?_ ?_
 focus (exact AP)
 iterate 2 refine H6 (hq := by exact Aq) ?_
 refine A7 (hq := by exact Aq) ?_
 refine Ab ?_
 have hx := hx0
 refine h27 _ ⟨true, ?_, [some 0, some 1, some 2, some 3, some 4, some 5], ?_⟩
 dsimp only
 rw [m1]; rfl
 dsimp only
 refine ⟨by rfl, ?_, ?_⟩
 refine Aj ?_
 ·(repeat' apply And.intro) <;> (first | (first | (with_reducible rfl) | exact True.intro | trivial | rfl | exact Or.inl rfl) | exact As)
 refine Aj ?_
 ·(repeat' apply And.intro) <;> (first | (first | (with_reducible rfl) | exact True.intro | trivial | rfl | exact Or.inl rfl) | exact As)
 skip
 have hx := And.intro @hd1 (And.intro @hd2 (And.intro @hsl0 (And.intro @m1 (And.intro @m2 hx0))))
 refine Ad ?_
 try refine Ac ?_
 refine At (hq := by exact Aq) ?_
 refine Ap (hq := by exact Aq) ?_
 refine Al (hq := by exact Aq) ?_
 refine Ae (hq := by exact Aq) ?_
 refine Ar ?_ ?_
 focus (exact AP)
 refine Ar ?_ ?_
 focus (exact AP)
 refine Ar ?_ ?_
 focus (exact AP)
 refine Ar ?_ ?_
 focus (exact AP)
 refine Ar ?_ ?_
 focus (exact AP)
 refine A7 (hq := by exact Aq) ?_
 refine Ae (hq := by exact Aq) ?_
 refine Ar ?_ ?_
 focus (exact AP)
 refine Ar ?_ ?_
 focus (exact AP)
 refine Ar ?_ ?_
 focus (exact AP)
 refine Ar ?_ ?_
 focus (exact AP)
 refine Ar ?_ ?_
 focus (exact AP)
 refine A7 (hq := by exact Aq) ?_
 refine Ae (hq := by exact Aq) ?_
 refine CG (hq := by exact Aq) ?_
 refine CF (hq := by exact Aq) ?_
 refine DW (hq := by exact Aq) ?_
 iterate 2 refine Cl (hq := by exact Aq) ?_
 refine CG (hq := by exact Aq) ?_
 refine CF (hq := by exact Aq) ?_
 refine Cl (hq := by exact Aq) ?_
 have hc := (show ((Dh.at_ 107)).Γ 74 = some (Spec.gen Fp) from rfl)
 have hs := (@Fp.eq_1)
 refine ND (hq := by (first | ((repeat' apply And.intro) <;> first | rfl | exact (hsl0 u).symm | omega | exact hg1 | exact hg2 | exact True.intro) | exact A3)) ?_
 iterate 2 refine Cl (hq := by exact Aq) ?_
 refine CG (hq := by exact Aq) ?_
 refine CF (hq := by exact Aq) ?_
 refine Cl (hq := by exact Aq) ?_
 have hc := (show ((Dh.at_ 107)).Γ 74 = some (Spec.gen Fp) from rfl)
 have hs := (@Fp.eq_1)
 refine ND (hq := by (first | ((repeat' apply And.intro) <;> first | rfl | exact (hsl0 u).symm | omega | exact hg1 | exact hg2 | exact True.intro) | exact A3)) ?_
 iterate 2 refine H6 (hq := by exact Aq) ?_
 refine A7 (hq := by exact Aq) ?_
 refine Ab ?_
 have hx := hx0
 refine h27 _ ⟨decide (t ∈ sy), ?_, [some 0, some 1, some 2, some 3, some 4, some 5], ?_⟩
 dsimp only
 rw [m1, Ww, Bool.false_or]
 dsimp only
 refine ⟨by rfl, ?_, ?_⟩
 refine Aj ?_
 ·(repeat' apply And.intro) <;> (first | (first | (with_reducible rfl) | exact True.intro | trivial | rfl | exact Or.inl rfl) | exact As)
 refine Aj ?_
 ·(repeat' apply And.intro) <;> (first | (first | (with_reducible rfl) | exact True.intro | trivial | rfl | exact Or.inl rfl) | exact As)
 obtain rfl : j = l.length := by have := hb24; (try simp at this); omega
 refine AF ?_
 simp only [Af, Nat.reduceEqDiff, reduceIte, eq_self]
 refine h9 _ ?_; clear h9
 refine Ad ?_
 try refine Ac ?_
 refine Al (hq := by exact Aq) ?_
 refine Ae (hq := by exact Aq) ?_
 refine Ab ?_
 refine h5 _ ⟨(i + 1, u), ?_, ?_, [some 0, some 1, some 2, some 3, some 5], ?_⟩
 dsimp only
 omega
 dsimp only
 omega
 dsimp only
 refine ⟨by rfl, ?_, ?_⟩
 refine Aj ?_
 ·(repeat' apply And.intro) <;> (first | (first | (with_reducible rfl) | exact True.intro | trivial | omega | (rw [hnext, Dl, hSl]; done) | (refine congrArg (OB.bag _ _) ?_; rw [hnext, Cg, hN]; simp [rows]; done) | (refine congrArg (OB.bag _ _) ?_; rw [hnext, Cg, hN]; done) | rfl) | exact As)
 refine Aj ?_
 ·(repeat' apply And.intro) <;> (first | (first | (with_reducible rfl) | exact True.intro | trivial | omega | (rw [hnext, Dl, hSl]; done) | (refine congrArg (OB.bag _ _) ?_; rw [hnext, Cg, hN]; simp [rows]; done) | (refine congrArg (OB.bag _ _) ?_; rw [hnext, Cg, hN]; done) | rfl) | exact As)
 obtain rfl : i = q.length := by have := hb8; (try simp at this); omega
 have hSl := Eh l P q q.length
 obtain ⟨T, s, hS⟩ : ∃ T s, Cy l P q q.length = T ++ [s] := ⟨_, _, (List.dropLast_concat_getLast (l := Cy l P q q.length) (fun h => by rw [h] at hSl; simp at hSl; omega)).symm⟩
 have hTl : T.length = q.length - 1 := by rw [hS] at hSl; simp at hSl; omega
 have hmq : LC l P q = s := by unfold LC; rw [hS, ← hTl, List.getD_eq_getElem?_getD]; simp
 have hsl := Ga (l := l) (P := P) (q := q) s (by rw [hS]; simp)
 have hqm : ((q.length : Int) - 1).toNat = T.length := by omega
 have hget := Iz (S := T) (n := q.length) (i := T.length) (x := [.raw v]) (H5 (by omega)) (by omega)
 have htln : ((DI T q.length).set T.length [.raw v]).length = q.length := by rw [List.length_set]; exact H5 (by omega)
 rw [hS, Dl, Cg]
 refine AF ?_
 simp only [Af, Nat.reduceEqDiff, reduceIte, eq_self]
 refine h3 _ ?_; clear h3
 refine Aa fun N29 h29 => ?_
 have hx := And.intro @hqm (And.intro @hget (And.intro @htln hx0))
 refine Ad ?_
 try refine Ac ?_
 iterate 2 refine Ap (hq := by exact Aq) ?_
 refine AZ (hq := by exact Aq) ?_
 refine Al (hq := by exact Aq) ?_
 refine At (hq := by exact Aq) ?_
 refine AN (by rfl) (Kj 4 (by rfl) (m1 := []) (m2 := []) (by simp only [wB, eq_self, Nat.reduceEqDiff, reduceIte, CU, Fb, EL, B9, KV, hT, C7, wL, Int.toNat_natCast, Int.reduceToNat, Nat.reduceAdd, Nat.reduceMul, Nat.reduceSub, Nat.reduceLeDiff, hx]; rfl) (by simp only [wB, eq_self, Nat.reduceEqDiff, reduceIte, and_true]) (by exact Aq) (by simp only [wB, eq_self, Nat.reduceEqDiff, reduceIte]; rfl) rfl ?_)
 try simp only [Bc, BS, List.set, List.cons_append, List.nil_append, List.mem_cons, List.not_mem_nil, or_false, false_or, Nat.reduceEqDiff, Nat.reduceAdd, reduceIte, wB, eq_self, Nat.reduceEqDiff, reduceIte, wL, Int.toNat_natCast, Int.reduceToNat, Nat.reduceAdd, Nat.reduceMul, Nat.reduceSub, Nat.reduceLeDiff, hx]
 refine Ae (hq := by exact Aq) ?_
 refine Ab ?_
 have hx := hx0
 refine h29 _ ?_; clear h29
 refine An ?_
 try simp only [Af]
 rw [hmq]
 refine Aj ?_
 refine ⟨[some 5], by rfl, ?_, ?_⟩
 refine Aj ?_
 exact As
 refine Aj ?_
 exact As
 cases hg

def Hb : Bn Tryz.prog := Dh.add 50 (Spec.fresh Yo) R3 (by kernel_rfl)
end Go.Proofs.YtmbjnkgpcbpclaaGreat
