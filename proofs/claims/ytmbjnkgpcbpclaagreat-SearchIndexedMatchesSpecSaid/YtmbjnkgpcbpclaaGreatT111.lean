import Derived.Test.YtmbjnkgpcbpclaaGreatT110
set_option linter.all false
set_option maxRecDepth 100000
set_option maxHeartbeats 4000000
namespace Go.Proofs.YtmbjnkgpcbpclaaGreat
open Go Go.Vc Go.RowKit
def ZJ : DP
  | [.agg [.d (.sl xs), .d (.sl ps)], .agg [.d (.sl ys)]], [] => some (xs = rows eI (dI xs) ∧ (dI xs).length ≤ 9223372036854775807 ∧ ps = rows eP (dP ps) ∧ (dP ps).length ≤ 9223372036854775807 ∧ DN (dP ps) ∧ Dj (dI xs) (dP ps) = (0, 0) ∧ ys = rows Ec (C8 ys) ∧ C4 (C8 ys) = (0, 0), .sl 0 0 (Ju (dI xs) (dP ps) (C8 ys)).length, [some (.vec 3 1 (rows eI (Ju (dI xs) (dP ps) (C8 ys))))])
  | _, _ => none
theorem WH {a : Int} (h : a = 2 ∨ a = 3) (t : Int) (x y : List Int) : (a = 2 ∧ decide (t ∈ x) = true ∧ decide (t ∈ y) = true) ∨ (a = 2 ∧ decide (t ∈ x) = true ∧ decide (t ∈ y) = false) ∨ (a = 2 ∧ decide (t ∈ x) = false ∧ True) ∨ (a = 3 ∧ decide (t ∈ x) = true ∧ True) ∨ (a = 3 ∧ decide (t ∈ x) = false ∧ True) := by
  rcases h with rfl | rfl <;> cases decide (t ∈ x) <;> cases decide (t ∈ y) <;> simp
theorem Z5 (a b : Bool) : MG 3 a b = (a || b) := rfl
theorem UY (l : List Int) (kd : Int) (x y : List Int) : IK l kd x y 0 = [] := rfl
theorem VL {xs : List (List D)} {i : Nat} {x : List D} (h : xs[i]? = some x) : xs.set i x = xs := by
  obtain ⟨h1, h2⟩ := List.getElem?_eq_some_iff.1 h
  subst h2
  exact List.set_getElem_self h1
theorem Jn {S : List (List Int)} {n i j : Nat} {x : List D} {s : List Int} (h : S[j]? = some s) (hne : i ≠ j) : ((Er S n).set i x)[j]? = some [.sl (rows eI s)] := by
  rw [List.getElem?_set, if_neg hne]; exact Wf h
theorem Jo {S : List (List Int)} {n i : Nat} {x : List D} (h : (Er S n).length = n) (hi : i < n) : ((Er S n).set i x)[i]? = some x := by
  rw [List.getElem?_set, if_pos rfl, if_pos (by omega)]
theorem Ho {p : Prop} (h : p := by (repeat' apply And.intro) <;> (first | (first | (with_reducible rfl) | rfl | trivial | omega) | exact Au)) : p := h
theorem Cd {p : Prop} (h : p := by (repeat' apply And.intro) <;> (first | (first | (with_reducible rfl) | exact True.intro | trivial | rfl | exact Or.inl rfl) | exact Au)) : p := h
theorem Ty : A5 Tryz.prog 50 (Spec.fresh ZJ) := by
 refine F8 (DC.at_ 107) Tryz.func50 rfl rfl rfl ?_
 intro args bl p r bf hg hp
 unfold ZJ at hg
 split at hg
 rename_i xs ps ys
 simp only [Option.some.injEq, Prod.mk.injEq] at hg
 obtain ⟨rfl, rfl, rfl⟩ := hg
 obtain ⟨he, hl, he2, hl2, hsm, hvf, he3, hvq⟩ := hp
 generalize dI xs = l at *
 generalize dP ps = P at *
 generalize C8 ys = q at *
 subst he he2 he3
 have hvl := QA (show (Dj l P).1 = 0 by rw [hvf])
 have hlen20 := hvl.tlen
 obtain ⟨_, h1, h40, _⟩ := Et hvq
 have hT : (DC).X = T := rfl
 have hx0 := And.intro @DW (And.intro @BL (And.intro @AE (And.intro @BH (And.intro @AL (And.intro @Ci (And.intro @Ch (And.intro @Kc @Tryz.results50)))))))
 have hx := hx0
 refine ⟨Nat.le_of_ble_eq_true rfl, ?_⟩
 intro F W0 M0 hnp hmk
 have hnp : Bl.np = 0 := hnp
 refine Aa fun N1 h1 => Ac ?_
 refine Az ?_
 iterate 2 refine Fz (hq := Ap) ?_
 refine Ad (hq := Ap) ?_
 refine Ab (h1 _ (Aa fun N2 h2 => Ac ?_)); clear h1
 refine Ar (hq := Ap) ?_
 refine Aq (hq := Ap) ?_
 refine AU (hq := Ap) ?_
 refine AS (by rfl) (T1 (by exact DF) (by exact DE) (by exact DF) (by exact DE) (by exact DB) (by exact DB) (by rfl) (by (first | (exact ⟨by omega, by omega, by omega, by omega⟩) | exact AQ)) ?_)
 try simp only [wB, eq_self, Nat.reduceEqDiff, reduceIte, wL, Int.toNat_natCast, Int.reduceToNat, Nat.reduceAdd, Nat.reduceMul, Nat.reduceSub, Nat.reduceLeDiff, hx]
 refine Bj (hq := Ap) ?_
 refine A4 (hq := Ap) ?_
 refine Ab (h2 _ (Aa fun N3 h3 => Aa fun N4 h4 => ?_)); clear h2
 refine IY 3 1 rfl ?_
 simp only [List.cons_append, List.nil_append]
 refine Ac ?_
 refine Ar (hq := Ap) ?_
 refine Aq (hq := Ap) ?_
 refine AU (hq := Ap) ?_
 refine Ad (hq := Ap) ?_
 refine Ab (h4 _ (As ?_)); clear h4
 refine A3 (σ := Nat × Value) (fun s => (fun i v => i ≤ q.length) (s.1) (s.2))
  (fun s => (fun i v => [(2, .ptr 0 0 0), (3, .ptr 1 0 0), (5, .ptr 3 0 0), (16, .d (.sl (rows Ec q))), (17, .d (.int .i64 (q.length : Nat))), (18, .d (.int .i64 (i : Nat)))]) (s.1) (s.2))
  (fun s => (fun i v => [some (.one 49 [.d (.sl (rows eI l)), .d (.sl (rows eP P))]), some (.one 25 [.d (.sl (rows Ec q))]), some (.vec 27 1 (Ts (DM l P q i) q.length v)), some (.one 107 [.sl 2 0 q.length]), some (.ob (.bag 3 1 (Uf (DM l P q i) v)))]) (s.1) (s.2)) (fun s => (fun i v => q.length - i) (s.1) (s.2)) hnp (0, GF) ?_ [some 0, some 1, some 2, some 3, some 4] ?_ ?_
 dsimp only
 omega
 dsimp only
 refine ⟨by rfl, ?_, ?_⟩
 refine Aj ?_
 exact Ho
 refine Aj ?_
 exact Ho
 rintro ⟨i, v⟩ hinv N5 h5
 dsimp only at hinv ⊢
 have i1 := hinv
 refine Aa fun N6 h6 => Ac ?_
 refine Az ?_
 refine Ao (hq := Ap) ?_
 refine Ab (h6 _ (Aa fun N7 h7 => Ak (fun hb8 => ?_) (fun hb8 => ?_))); clear h6
 have hiq : i < q.length := by have := hb8; (try simp at this); omega
 obtain ⟨x, hxe⟩ := BA (l := q) (i := i) hiq
 have hxd : q.getD i default = x := by rw [List.getD_eq_getElem?_getD, hxe]; rfl
 have hnext := L5 (l := l) (P := P) hxd
 have hSl := EF l P q i
 have hSa := Ib (l := l) (P := P) (q := q) (i := i)
 have hok := Fw hvq hiq hxd
 have hat := MK hvq hiq hxd
 have htl : (Er (DM l P q i) q.length).length = q.length := Iu (by omega)
 have hti : (Er (DM l P q i) q.length)[i]? = some [.raw GF] := by
  have := Wg (S := (DM l P q i)) (n := q.length) (by omega)
  rwa [hSl] at this
 have hset0 := VL hti
 have hrec : ∀ v, CW 1 ((Er (DM l P q i) q.length).set i [.raw v]) = True := fun v => eq_true (Tp (LI _ _))
 have hre0 : CW 1 (Er (DM l P q i) q.length) = True := eq_true (LI _ _)
 have hsl0 : ∀ v, ((Er (DM l P q i) q.length).set i [.raw v]).length = q.length := fun v => by rw [List.length_set]; exact htl
 obtain ⟨a, b, c, e⟩ := x
 dsimp only at hok hat
 refine An ?_
 try simp only [Ae]
 refine h7 _ (Aa fun N9 h9 => As (Aa fun N10 h10 => ?_)); clear h7
 refine QD 2 4 ((DM l P q i).length - 1) rfl rfl rfl (by decide) (VK (n := q.length) (by omega)) ?_
 simp only [Bk, Cc, List.set, List.cons_append, List.nil_append, List.mem_cons, List.not_mem_nil, or_false, Nat.reduceEqDiff, Nat.reduceAdd, reduceIte]
 have hx := And.intro @hxe (And.intro @Ec.eq_1 hx0)
 refine Ac ?_
 refine Ad (hq := Ap) ?_
 refine Ar (hq := Ap) ?_
 refine Aq (hq := Ap) ?_
 refine Bj (hq := Ap) ?_
 refine Ad (hq := Ap) ?_
 refine A4 (hq := Ap) ?_
 have hx := hx0
 refine Ab (h10 _ (Aa fun N11 h11 => Ac ?_)); clear h10
 refine Hh (hq := Ap) ?_
 refine Ad (hq := Ap) ?_
 refine Ab (h11 _ (Aa fun N12 h12 => ?_)); clear h11
 refine Aa fun N13 h13 => Ac ?_
 refine Ar (hq := Ap) ?_
 refine Aq (hq := Ap) ?_
 refine Ab (h13 _ (As ?_)); clear h13
 refine Aa fun N14 h14 => Ac ?_
 refine Ao (hq := Ap) ?_
 refine Ad (hq := Ap) ?_
 refine Ab (h14 _ (Ak (fun hb15 => ?_) (fun hb15 => ?_))); clear h14
 have hk1 : a = 1 := by have := hb15; (try simp at this); omega
 have hbl := Ie (hok.2.1 hk1)
 have hN := Y9 (l := l) (P := P) (b := b) (c := c) (e := e) (S := (DM l P q i)) hk1
 have hcf : Eh l P b = (0, 0) := by unfold Eh; rw [if_neg (by rw [hvf]; simp), if_neg (by omega)]
 have hcr : ED l P b = DQ l P b (b.length - 2) := by unfold ED; rw [hcf]; rfl
 refine Aa fun N16 h16 => ?_
 refine IY 3 1 rfl ?_
 simp only [List.cons_append, List.nil_append]
 have hx := And.intro @hcr (And.intro @hcf hx0)
 refine Eu [75] ER (by kernel_rfl) ?_
 refine Aq (hq := Ap) ?_
 refine Ad (hq := Ap) ?_
 refine Aq (hq := Ap) ?_
 refine Ar (hq := Ap) ?_
 refine Aq (hq := Ap) ?_
 have hc := Ag (E := (DC.at_ 107)) (f := 75) (sp := Spec.fresh Kb) rfl
 have hs := @Kb.eq_1
 refine BM (hq := by (first | (exact ⟨rfl, by omega, rfl, by omega, hsm, by omega⟩) | exact AQ)) ?_
 refine Ad (hq := Ap) ?_
 iterate 2 refine Dt (hq := Ap) ?_
 refine Ar (hq := Ap) ?_
 refine AS (by rfl) (En 6 (by rfl) (by exact DF) (by exact DE) (by exact DF) (by exact DE) (by simp only [wB, eq_self, Nat.reduceEqDiff, reduceIte]; rfl) (by simp only [wB, eq_self, Nat.reduceEqDiff, reduceIte]; rfl) (by simp only [wB, eq_self, Nat.reduceEqDiff, reduceIte]; rfl) (by exact DB) (by decide) (by decide) (by decide) hti (by first | exact Nat.le_refl _ | (simp [rows]; done) | exact Ap) fun v1 => ?_)
 try simp only [Bk, Cc, List.set, List.cons_append, List.nil_append, List.mem_cons, List.not_mem_nil, or_false, false_or, Nat.reduceEqDiff, Nat.reduceAdd, reduceIte, wB, eq_self, Nat.reduceEqDiff, reduceIte, wL, Int.toNat_natCast, Int.reduceToNat, Nat.reduceAdd, Nat.reduceMul, Nat.reduceSub, Nat.reduceLeDiff, hx]
 have hx := hx0
 refine Ab (h16 _ ?_); clear h16
 refine AJ ?_
 simp only [Ae, Nat.reduceEqDiff, reduceIte, eq_self]
 refine h9 _ (Ac ?_); clear h9
 refine Ao (hq := Ap) ?_
 refine Ad (hq := Ap) ?_
 refine Ab ?_
 refine h5 _ ⟨(i + 1, v1), ?_, ?_, [some 0, some 1, some 2, some 3, some 8], ?_⟩
 dsimp only
 omega
 dsimp only
 omega
 dsimp only
 refine ⟨by rfl, ?_, ?_⟩
 refine Aj ?_
 ·(repeat' apply And.intro) <;> (first | (first | (with_reducible rfl) | exact True.intro | trivial | omega | (rw [hnext, DI, hSl]; done) | (refine congrArg (OB.bag _ _) ?_; rw [hnext, C6, hN]; simp [rows]; done) | (refine congrArg (OB.bag _ _) ?_; rw [hnext, C6, hN]; done) | rfl) | exact Au)
 refine Aj ?_
 ·(repeat' apply And.intro) <;> (first | (first | (with_reducible rfl) | exact True.intro | trivial | omega | (rw [hnext, DI, hSl]; done) | (refine congrArg (OB.bag _ _) ?_; rw [hnext, C6, hN]; simp [rows]; done) | (refine congrArg (OB.bag _ _) ?_; rw [hnext, C6, hN]; done) | rfl) | exact Au)
 have hk1 : ¬a = 1 := by have := hb15; (try simp at this); omega
 refine Aa fun N17 h17 => Ac ?_
 refine Ao (hq := Ap) ?_
 refine Ad (hq := Ap) ?_
 refine Ab (h17 _ (Ak (fun hb18 => ?_) (fun hb18 => ?_))); clear h17
 have hk4 : a = 4 := by have := hb18; (try simp at this); omega
 have hN := YB (l := l) (P := P) (b := b) (c := c) (e := e) (S := (DM l P q i)) hk4
 refine Aa fun N19 h19 => ?_
 refine IY 3 1 rfl ?_
 simp only [List.cons_append, List.nil_append]
 refine Eu [76] ER (by kernel_rfl) ?_
 refine Aq (hq := Ap) ?_
 refine Ad (hq := Ap) ?_
 refine Ar (hq := Ap) ?_
 refine Aq (hq := Ap) ?_
 have hc := Ag (E := (DC.at_ 107)) (f := 76) (sp := Spec.fresh (FW 3)) rfl
 have hs := @FW.eq_1
 refine BM (hq := by (first | (exact ⟨of_eq_true (BO l), by rw [Bd]; omega⟩) | exact AQ)) ?_
 refine Ar (hq := Ap) ?_
 refine AS (by rfl) (En 6 (by rfl) (by exact DF) (by exact DE) (by exact DF) (by exact DE) (by simp only [wB, eq_self, Nat.reduceEqDiff, reduceIte]; rfl) (by simp only [wB, eq_self, Nat.reduceEqDiff, reduceIte]; rfl) (by simp only [wB, eq_self, Nat.reduceEqDiff, reduceIte]; rfl) (by exact DB) (by decide) (by decide) (by decide) hti (by first | exact Nat.le_refl _ | (simp [rows]; done) | exact Ap) fun v2 => ?_)
 try simp only [Bk, Cc, List.set, List.cons_append, List.nil_append, List.mem_cons, List.not_mem_nil, or_false, false_or, Nat.reduceEqDiff, Nat.reduceAdd, reduceIte, wB, eq_self, Nat.reduceEqDiff, reduceIte, wL, Int.toNat_natCast, Int.reduceToNat, Nat.reduceAdd, Nat.reduceMul, Nat.reduceSub, Nat.reduceLeDiff, hx]
 refine Ab (h19 _ ?_); clear h19
 refine AJ ?_
 simp only [Ae, Nat.reduceEqDiff, reduceIte, eq_self]
 refine h9 _ (Ac ?_); clear h9
 refine Ao (hq := Ap) ?_
 refine Ad (hq := Ap) ?_
 refine Ab ?_
 refine h5 _ ⟨(i + 1, v2), ?_, ?_, [some 0, some 1, some 2, some 3, some 8], ?_⟩
 dsimp only
 omega
 dsimp only
 omega
 dsimp only
 refine ⟨by rfl, ?_, ?_⟩
 refine Aj ?_
 ·(repeat' apply And.intro) <;> (first | (first | (with_reducible rfl) | exact True.intro | trivial | omega | (rw [hnext, DI, hSl]; done) | (refine congrArg (OB.bag _ _) ?_; rw [hnext, C6, hN]; simp [rows]; done) | (refine congrArg (OB.bag _ _) ?_; rw [hnext, C6, hN]; done) | rfl) | exact Au)
 refine Aj ?_
 ·(repeat' apply And.intro) <;> (first | (first | (with_reducible rfl) | exact True.intro | trivial | omega | (rw [hnext, DI, hSl]; done) | (refine congrArg (OB.bag _ _) ?_; rw [hnext, C6, hN]; simp [rows]; done) | (refine congrArg (OB.bag _ _) ?_; rw [hnext, C6, hN]; done) | rfl) | exact Au)
 have hk4 : ¬a = 4 := by have := hb18; (try simp at this); omega
 have hk23 : a = 2 ∨ a = 3 := by omega
 obtain ⟨hc0, hci, he0, hei⟩ := hat hk1
 obtain ⟨sx, hsx⟩ := BA (l := (DM l P q i)) (i := c.toNat) (by omega)
 obtain ⟨sy, hsy⟩ := BA (l := (DM l P q i)) (i := e.toNat) (by omega)
 have hxl := hSa sx (AB hsx)
 have hyl := hSa sy (AB hsy)
 have hN := (YA (l := l) (P := P) (b := b) hk1 hk4 hsx hsy).trans (UZ l a sx sy).symm
 have hga := fun v => Jn (n := q.length) (i := i) (x := [.raw v]) hsx (by omega)
 have hgb := fun v => Jn (n := q.length) (i := i) (x := [.raw v]) hsy (by omega)
 have hown := fun v => Jo (S := (DM l P q i)) (n := q.length) (i := i) (x := [.raw v]) htl hiq
 refine An ?_
 try simp only [Ae]
 refine h12 _ (Aa fun N20 h20 => ?_); clear h12
 refine QE 3 1 rfl ?_
 simp only [List.cons_append, List.nil_append]
 refine Ac ?_
 refine Ar (hq := Ap) ?_
 refine Aq (hq := Ap) ?_
 refine AU (hq := Ap) ?_
 refine Ad (hq := Ap) ?_
 refine Ab (h20 _ (As ?_)); clear h20
 refine A3 (σ := Nat × Value) (fun s => (fun j u => j ≤ l.length) (s.1) (s.2))
  (fun s => (fun j u => [(2, .ptr 0 0 0), (3, .ptr 1 0 0), (5, .ptr 3 0 0), (6, .d (.int .i64 (i : Nat))), (7, .ptr 4 0 0), (8, .clo (.func 74) [.ptr 3 0 0]), (16, .d (.sl (rows Ec q))), (17, .d (.int .i64 (q.length : Nat))), (18, .d (.int .i64 (i : Nat))), (47, .d (.sl (rows eI l))), (48, .d (.int .i64 (l.length : Nat))), (49, .d (.int .i64 (j : Nat)))]) (s.1) (s.2))
  (fun s => (fun j u => [some (.one 49 [.d (.sl (rows eI l)), .d (.sl (rows eP P))]), some (.one 25 [.d (.sl (rows Ec q))]), some (.vec 27 1 ((Er (DM l P q i) q.length).set i [.raw u])), some (.one 107 [.sl 2 0 q.length]), some (.one 55 [.d (.int .i64 a), .d (.str b), .d (.int .i64 c), .d (.int .i64 e)]), some (.ob (.bag 3 1 [(u, rows eI (IK l a sx sy j))]))]) (s.1) (s.2)) (fun s => (fun j u => l.length - j) (s.1) (s.2)) hnp (0, GF) ?_ [some 0, some 1, some 2, some 3, some 5, some 6] ?_ ?_
 dsimp only
 omega
 dsimp only
 refine ⟨by rfl, ?_, ?_⟩
 refine Aj ?_
 ·(repeat' apply And.intro) <;> (first | (first | (with_reducible rfl) | (rw [hset0]; done) | rfl | trivial | omega | exact congrArg (OB.bag _ _) (by rw [UY]; rfl)) | exact Au)
 refine Aj ?_
 ·(repeat' apply And.intro) <;> (first | (first | (with_reducible rfl) | (rw [hset0]; done) | rfl | trivial | omega | exact congrArg (OB.bag _ _) (by rw [UY]; rfl)) | exact Au)
 rintro ⟨j, u⟩ hinv N21 h21
 dsimp only at hinv ⊢
 have j1 := hinv
 refine Aa fun N22 h22 => Ac ?_
 refine Az ?_
 refine Ao (hq := Ap) ?_
 refine Ab (h22 _ (Aa fun N23 h23 => Ak (fun hb24 => ?_) (fun hb24 => ?_))); clear h22
 have hjl : j < l.length := by have := hb24; (try simp at this); omega
 obtain ⟨t, hte⟩ := BA (l := l) (i := j) hjl
 have hkl := Va l a sx sy j
 have hstep := SW (kd := a) (x := sx) (y := sy) hte
 have hg1 := hga u
 have hg2 := hgb u
 have hd1 : XO ((Er (DM l P q i) q.length).set i [.raw u]) c.toNat = sx := Ur hg1
 have hd2 : XO ((Er (DM l P q i) q.length).set i [.raw u]) e.toNat = sy := Ur hg2
 have hu := hown u
 refine An ?_
 try simp only [Ae]
 refine h23 _ (Aa fun N25 h25 => As ?_); clear h23
 have hx := And.intro @hte (And.intro @eI.eq_1 hx0)
 refine Aa fun N26 h26 => Ac ?_
 refine Ar (hq := Ap) ?_
 refine Aq (hq := Ap) ?_
 refine Ad (hq := Ap) ?_
 have hx := hx0
 refine Ab (h26 _ ?_); clear h26
 refine F0 (σ := Bool) (fun s => (fun w => w = MG a (decide (t ∈ sx)) (decide (t ∈ sy))) s)
  (fun s => (fun w => [(2, .ptr 0 0 0), (3, .ptr 1 0 0), (5, .ptr 3 0 0), (6, .d (.int .i64 (i : Nat))), (7, .ptr 4 0 0), (8, .clo (.func 74) [.ptr 3 0 0]), (10, .d (.int .i64 t)), (16, .d (.sl (rows Ec q))), (17, .d (.int .i64 (q.length : Nat))), (18, .d (.int .i64 (i : Nat))), (47, .d (.sl (rows eI l))), (48, .d (.int .i64 (l.length : Nat))), (49, .d (.int .i64 (j : Nat))), (88, .d (.bool w))]) s)
  (fun s => (fun w => [some (.one 49 [.d (.sl (rows eI l)), .d (.sl (rows eP P))]), some (.one 25 [.d (.sl (rows Ec q))]), some (.vec 27 1 ((Er (DM l P q i) q.length).set i [.raw u])), some (.one 107 [.sl 2 0 q.length]), some (.one 55 [.d (.int .i64 a), .d (.str b), .d (.int .i64 c), .d (.int .i64 e)]), some (.ob (.bag 3 1 [(u, rows eI (IK l a sx sy j))]))]) s) hnp ?_ ?_
 rintro w hinv
 dsimp only at hinv ⊢
 have hwv := hinv
 refine Ak (fun hb28 => ?_) (fun hb28 => ?_)
 have hks : IK l a sx sy (j + 1) = IK l a sx sy j ++ [t] := by rw [hstep, if_pos (by rw [← hwv]; exact hb28)]
 have hx := And.intro @hu (And.intro @hsl0 hx0)
 refine EA [] (.seq [1, 2, 3, 4, 5, 6] (.alt 0 (.seq [7, 8, 9, 10] .nil) (.alt 7 (.alt 0 (.seq [8, 9, 10] .nil) (.alt 8 (.seq [0, 9, 10] .nil) .nil)) .nil))) ER (by kernel_rfl) ?_
 refine A7 ?_
 simp only [Ah, Af]
 refine Az ?_
 refine Ad (hq := Ap) ?_
 refine Aq (hq := Ap) ?_
 refine Ad (hq := Ap) ?_
 refine Ar (hq := Ap) ?_
 refine Aq (hq := Ap) ?_
 refine Ad (hq := Ap) ?_
 refine Ab ?_
 refine A0 ?_ ?_
 simp only [Ah, Af]
 refine Aq (hq := Ap) ?_
 refine Ab ?_
 refine A7 ?_
 simp only [Ah, Af]
 refine Di (hq := Ap) ?_
 refine AS (by rfl) (GM 5 (by rfl) (m1 := []) (m2 := []) (by exact DF) (by exact DE) (by exact DF) (by exact DE) (by exact DB) (by exact DB) (by simp only [wB, eq_self, Nat.reduceEqDiff, reduceIte]; rfl) rfl (by simp only [Bk, Cc, List.set, List.cons_append, List.nil_append, List.mem_cons, List.not_mem_nil, or_false, false_or, Nat.reduceEqDiff, Nat.reduceAdd, reduceIte]; rfl) (by simp only [C7, wB, eq_self, Nat.reduceEqDiff, reduceIte, wL, Int.toNat_natCast, Int.reduceToNat, Nat.reduceAdd, Nat.reduceMul, Nat.reduceSub, Nat.reduceLeDiff, hx]; rfl) (by decide) (by (first | (first | exact True.intro | (refine ⟨?_, ?_⟩; (intro x hx; simp at hx; subst hx; rfl); simp [rows]; omega) | (unfold D1; omega) | omega) | exact AQ)) (by (first | (first | exact True.intro | (refine ⟨?_, ?_⟩; (intro x hx; simp at hx; subst hx; rfl); simp [rows]; omega) | (unfold D1; omega) | omega) | exact AQ)) ?_)
 try simp only [Bk, Cc, List.set, List.cons_append, List.nil_append, List.mem_cons, List.not_mem_nil, or_false, false_or, Nat.reduceEqDiff, Nat.reduceAdd, reduceIte, wB, eq_self, Nat.reduceEqDiff, reduceIte, wL, Int.toNat_natCast, Int.reduceToNat, Nat.reduceAdd, Nat.reduceMul, Nat.reduceSub, Nat.reduceLeDiff, hx]
 refine Ar (hq := Ap) ?_
 refine AS (by rfl) (En 8 (by rfl) (by exact DF) (by exact DE) (by exact DF) (by exact DE) (by simp only [wB, eq_self, Nat.reduceEqDiff, reduceIte]; rfl) (by simp only [wB, eq_self, Nat.reduceEqDiff, reduceIte]; rfl) (by simp only [wB, eq_self, Nat.reduceEqDiff, reduceIte]; rfl) (by exact DB) (by decide) (by decide) (by decide) hu (by first | exact Nat.le_refl _ | (simp [rows]; done) | exact Ap) fun u1 => ?_)
 try simp only [Bk, Cc, List.set, List.cons_append, List.nil_append, List.mem_cons, List.not_mem_nil, or_false, false_or, Nat.reduceEqDiff, Nat.reduceAdd, reduceIte, wB, eq_self, Nat.reduceEqDiff, reduceIte, wL, Int.toNat_natCast, Int.reduceToNat, Nat.reduceAdd, Nat.reduceMul, Nat.reduceSub, Nat.reduceLeDiff, hx]
 refine Ab ?_
 refine AK ?_
 have hx := hx0
 refine h25 _ (Ac ?_); clear h25
 refine Ao (hq := Ap) ?_
 refine Ad (hq := Ap) ?_
 refine Ab ?_
 refine h21 _ ⟨(j + 1, u1), ?_, ?_, [some 0, some 1, some 2, some 3, some 4, some 10], ?_⟩
 dsimp only
 omega
 dsimp only
 omega
 dsimp only
 refine ⟨by rfl, ?_, ?_⟩
 refine Aj ?_
 ·(repeat' apply And.intro) <;> (first | (first | (with_reducible rfl) | exact True.intro | trivial | omega | (rw [List.set_set]; done) | (refine congrArg (OB.bag _ _) ?_; rw [hks, List.take_of_length_le (by simp [rows])]; simp [rows, eI]; done) | (refine congrArg (OB.bag _ _) ?_; rw [hks]; done) | rfl) | exact Au)
 refine Aj ?_
 ·(repeat' apply And.intro) <;> (first | (first | (with_reducible rfl) | exact True.intro | trivial | omega | (rw [List.set_set]; done) | (refine congrArg (OB.bag _ _) ?_; rw [hks, List.take_of_length_le (by simp [rows])]; simp [rows, eI]; done) | (refine congrArg (OB.bag _ _) ?_; rw [hks]; done) | rfl) | exact Au)
 refine A0 ?_ ?_
 simp only [Ah, Af]
 refine Di (hq := Ap) ?_
 refine Ab ?_
 refine A0 ?_ ?_
 simp only [Ah, Af]
 refine Aq (hq := Ap) ?_
 refine Ab ?_
 refine A7 ?_
 simp only [Ah, Af]
 refine AS (by rfl) (GM 5 (by rfl) (m1 := []) (m2 := []) (by exact DF) (by exact DE) (by exact DF) (by exact DE) (by exact DB) (by exact DB) (by simp only [wB, eq_self, Nat.reduceEqDiff, reduceIte]; rfl) rfl (by simp only [Bk, Cc, List.set, List.cons_append, List.nil_append, List.mem_cons, List.not_mem_nil, or_false, false_or, Nat.reduceEqDiff, Nat.reduceAdd, reduceIte]; rfl) (by simp only [C7, wB, eq_self, Nat.reduceEqDiff, reduceIte, wL, Int.toNat_natCast, Int.reduceToNat, Nat.reduceAdd, Nat.reduceMul, Nat.reduceSub, Nat.reduceLeDiff, hx]; rfl) (by decide) (by (first | (first | exact True.intro | (refine ⟨?_, ?_⟩; (intro x hx; simp at hx; subst hx; rfl); simp [rows]; omega) | (unfold D1; omega) | omega) | exact AQ)) (by (first | (first | exact True.intro | (refine ⟨?_, ?_⟩; (intro x hx; simp at hx; subst hx; rfl); simp [rows]; omega) | (unfold D1; omega) | omega) | exact AQ)) ?_)
 try simp only [Bk, Cc, List.set, List.cons_append, List.nil_append, List.mem_cons, List.not_mem_nil, or_false, false_or, Nat.reduceEqDiff, Nat.reduceAdd, reduceIte, wB, eq_self, Nat.reduceEqDiff, reduceIte, wL, Int.toNat_natCast, Int.reduceToNat, Nat.reduceAdd, Nat.reduceMul, Nat.reduceSub, Nat.reduceLeDiff, hx]
 refine Ar (hq := Ap) ?_
 refine AS (by rfl) (En 8 (by rfl) (by exact DF) (by exact DE) (by exact DF) (by exact DE) (by simp only [wB, eq_self, Nat.reduceEqDiff, reduceIte]; rfl) (by simp only [wB, eq_self, Nat.reduceEqDiff, reduceIte]; rfl) (by simp only [wB, eq_self, Nat.reduceEqDiff, reduceIte]; rfl) (by exact DB) (by decide) (by decide) (by decide) hu (by first | exact Nat.le_refl _ | (simp [rows]; done) | exact Ap) fun u1 => ?_)
 try simp only [Bk, Cc, List.set, List.cons_append, List.nil_append, List.mem_cons, List.not_mem_nil, or_false, false_or, Nat.reduceEqDiff, Nat.reduceAdd, reduceIte, wB, eq_self, Nat.reduceEqDiff, reduceIte, wL, Int.toNat_natCast, Int.reduceToNat, Nat.reduceAdd, Nat.reduceMul, Nat.reduceSub, Nat.reduceLeDiff, hx]
 refine Ab ?_
 refine AK ?_
 have hx := hx0
 refine h25 _ (Ac ?_); clear h25
 refine Ao (hq := Ap) ?_
 refine Ad (hq := Ap) ?_
 refine Ab ?_
 refine h21 _ ⟨(j + 1, u1), ?_, ?_, [some 0, some 1, some 2, some 3, some 4, some 10], ?_⟩
 dsimp only
 omega
 dsimp only
 omega
 dsimp only
 refine ⟨by rfl, ?_, ?_⟩
 refine Aj ?_
 ·(repeat' apply And.intro) <;> (first | (first | (with_reducible rfl) | exact True.intro | trivial | omega | (rw [List.set_set]; done) | (refine congrArg (OB.bag _ _) ?_; rw [hks, List.take_of_length_le (by simp [rows])]; simp [rows, eI]; done) | (refine congrArg (OB.bag _ _) ?_; rw [hks]; done) | rfl) | exact Au)
 refine Aj ?_
 ·(repeat' apply And.intro) <;> (first | (first | (with_reducible rfl) | exact True.intro | trivial | omega | (rw [List.set_set]; done) | (refine congrArg (OB.bag _ _) ?_; rw [hks, List.take_of_length_le (by simp [rows])]; simp [rows, eI]; done) | (refine congrArg (OB.bag _ _) ?_; rw [hks]; done) | rfl) | exact Au)
 refine A0 ?_ ?_
 simp only [Ah, Af]
 refine AS (by rfl) (GM 5 (by rfl) (m1 := []) (m2 := []) (by exact DF) (by exact DE) (by exact DF) (by exact DE) (by exact DB) (by exact DB) (by simp only [wB, eq_self, Nat.reduceEqDiff, reduceIte]; rfl) rfl (by simp only [Bk, Cc, List.set, List.cons_append, List.nil_append, List.mem_cons, List.not_mem_nil, or_false, false_or, Nat.reduceEqDiff, Nat.reduceAdd, reduceIte]; rfl) (by simp only [C7, wB, eq_self, Nat.reduceEqDiff, reduceIte, wL, Int.toNat_natCast, Int.reduceToNat, Nat.reduceAdd, Nat.reduceMul, Nat.reduceSub, Nat.reduceLeDiff, hx]; rfl) (by decide) (by (first | (first | exact True.intro | (refine ⟨?_, ?_⟩; (intro x hx; simp at hx; subst hx; rfl); simp [rows]; omega) | (unfold D1; omega) | omega) | exact AQ)) (by (first | (first | exact True.intro | (refine ⟨?_, ?_⟩; (intro x hx; simp at hx; subst hx; rfl); simp [rows]; omega) | (unfold D1; omega) | omega) | exact AQ)) ?_)
 try simp only [Bk, Cc, List.set, List.cons_append, List.nil_append, List.mem_cons, List.not_mem_nil, or_false, false_or, Nat.reduceEqDiff, Nat.reduceAdd, reduceIte, wB, eq_self, Nat.reduceEqDiff, reduceIte, wL, Int.toNat_natCast, Int.reduceToNat, Nat.reduceAdd, Nat.reduceMul, Nat.reduceSub, Nat.reduceLeDiff, hx]
 refine Ab ?_
 refine A7 ?_
 simp only [Ah, Af]
 refine Aq (hq := Ap) ?_
 refine Ar (hq := Ap) ?_
 refine AS (by rfl) (En 8 (by rfl) (by exact DF) (by exact DE) (by exact DF) (by exact DE) (by simp only [wB, eq_self, Nat.reduceEqDiff, reduceIte]; rfl) (by simp only [wB, eq_self, Nat.reduceEqDiff, reduceIte]; rfl) (by simp only [wB, eq_self, Nat.reduceEqDiff, reduceIte]; rfl) (by exact DB) (by decide) (by decide) (by decide) hu (by first | exact Nat.le_refl _ | (simp [rows]; done) | exact Ap) fun u1 => ?_)
 try simp only [Bk, Cc, List.set, List.cons_append, List.nil_append, List.mem_cons, List.not_mem_nil, or_false, false_or, Nat.reduceEqDiff, Nat.reduceAdd, reduceIte, wB, eq_self, Nat.reduceEqDiff, reduceIte, wL, Int.toNat_natCast, Int.reduceToNat, Nat.reduceAdd, Nat.reduceMul, Nat.reduceSub, Nat.reduceLeDiff, hx]
 refine Ab ?_
 refine AK ?_
 have hx := hx0
 refine h25 _ (Ac ?_); clear h25
 refine Ao (hq := Ap) ?_
 refine Ad (hq := Ap) ?_
 refine Ab ?_
 refine h21 _ ⟨(j + 1, u1), ?_, ?_, [some 0, some 1, some 2, some 3, some 4, some 10], ?_⟩
 dsimp only
 omega
 dsimp only
 omega
 dsimp only
 refine ⟨by rfl, ?_, ?_⟩
 refine Aj ?_
 ·(repeat' apply And.intro) <;> (first | (first | (with_reducible rfl) | exact True.intro | trivial | omega | (rw [List.set_set]; done) | (refine congrArg (OB.bag _ _) ?_; rw [hks, List.take_of_length_le (by simp [rows])]; simp [rows, eI]; done) | (refine congrArg (OB.bag _ _) ?_; rw [hks]; done) | rfl) | exact Au)
 refine Aj ?_
 ·(repeat' apply And.intro) <;> (first | (first | (with_reducible rfl) | exact True.intro | trivial | omega | (rw [List.set_set]; done) | (refine congrArg (OB.bag _ _) ?_; rw [hks, List.take_of_length_le (by simp [rows])]; simp [rows, eI]; done) | (refine congrArg (OB.bag _ _) ?_; rw [hks]; done) | rfl) | exact Au)
 exact Bh
 exact Bh
 have hks : IK l a sx sy (j + 1) = IK l a sx sy j := by rw [hstep, if_neg (by rw [← hwv]; have := hb28; simpa using this), List.append_nil]
 refine An ?_
 try simp only [Ae]
 refine h25 _ (Ac ?_); clear h25
 refine Az ?_
 refine Ao (hq := Ap) ?_
 refine Ad (hq := Ap) ?_
 refine Ab ?_
 refine h21 _ ⟨(j + 1, u), ?_, ?_, [some 0, some 1, some 2, some 3, some 4, some 5], ?_⟩
 dsimp only
 omega
 dsimp only
 omega
 dsimp only
 refine ⟨by rfl, ?_, ?_⟩
 refine Aj ?_
 ·(repeat' apply And.intro) <;> (first | (first | (with_reducible rfl) | exact True.intro | trivial | omega | (rw [List.set_set]; done) | (refine congrArg (OB.bag _ _) ?_; rw [hks, List.take_of_length_le (by simp [rows])]; simp [rows, eI]; done) | (refine congrArg (OB.bag _ _) ?_; rw [hks]; done) | rfl) | exact Au)
 refine Aj ?_
 ·(repeat' apply And.intro) <;> (first | (first | (with_reducible rfl) | exact True.intro | trivial | omega | (rw [List.set_set]; done) | (refine congrArg (OB.bag _ _) ?_; rw [hks, List.take_of_length_le (by simp [rows])]; simp [rows, eI]; done) | (refine congrArg (OB.bag _ _) ?_; rw [hks]; done) | rfl) | exact Au)
 intro N27 h27
 rcases WH hk23 t sx sy with ⟨rfl, m1, m2⟩ | ⟨rfl, m1, m2⟩ | ⟨rfl, m1, m2⟩ | ⟨rfl, m1, m2⟩ | ⟨rfl, m1, m2⟩
 skip
 have hx := And.intro @hd1 (And.intro @hd2 (And.intro @hsl0 (And.intro @m1 (And.intro @m2 hx0))))
 refine Ac ?_
 refine Ar (hq := Ap) ?_
 refine Aq (hq := Ap) ?_
 refine Ao (hq := Ap) ?_
 refine Ad (hq := Ap) ?_
 refine C3 (hq := Ap) ?_
 refine CQ (hq := Ap) ?_
 refine C9 (hq := Ap) ?_
 refine C3 (hq := Ap) ?_
 have hc := (show ((DC.at_ 107)).Γ 74 = some (Spec.gen FV) from rfl)
 have hs := (@FV.eq_1)
 refine Pb (hq := by (first | ((repeat' apply And.intro) <;> first | rfl | exact (hsl0 u).symm | omega | exact hg1 | exact hg2 | exact True.intro) | exact AQ)) ?_
 refine AH (hq := Ap) ?_
 refine Ad (hq := Ap) ?_
 refine C3 (hq := Ap) ?_
 refine CQ (hq := Ap) ?_
 refine C9 (hq := Ap) ?_
 refine C3 (hq := Ap) ?_
 have hc := (show ((DC.at_ 107)).Γ 74 = some (Spec.gen FV) from rfl)
 have hs := (@FV.eq_1)
 refine Pb (hq := by (first | ((repeat' apply And.intro) <;> first | rfl | exact (hsl0 u).symm | omega | exact hg1 | exact hg2 | exact True.intro) | exact AQ)) ?_
 refine AH (hq := Ap) ?_
 refine Ad (hq := Ap) ?_
 refine At Bb ?_
 refine At Bb ?_
 refine At Bb ?_
 refine At Bb ?_
 refine At Bb ?_
 refine At Bb ?_
 refine At Bb ?_
 refine At Bb ?_
 refine At Bb ?_
 refine At Bb ?_
 refine At Bb ?_
 refine At Bb ?_
 refine At Bb ?_
 refine At Bb ?_
 refine At Bb ?_
 refine At Bb ?_
 refine At Bb ?_
 refine AH (hq := Ap) ?_
 refine Ab ?_
 have hx := hx0
 refine h27 _ ⟨true, ?_, [some 0, some 1, some 2, some 3, some 4, some 5], ?_⟩
 dsimp only
 rw [m1, m2]; rfl
 dsimp only
 refine ⟨by rfl, ?_, ?_⟩
 refine Aj ?_
 exact Cd
 refine Aj ?_
 exact Cd
 skip
 have hx := And.intro @hd1 (And.intro @hd2 (And.intro @hsl0 (And.intro @m1 (And.intro @m2 hx0))))
 refine Ac ?_
 refine Ar (hq := Ap) ?_
 refine Aq (hq := Ap) ?_
 refine Ao (hq := Ap) ?_
 refine Ad (hq := Ap) ?_
 refine C3 (hq := Ap) ?_
 refine CQ (hq := Ap) ?_
 refine C9 (hq := Ap) ?_
 refine C3 (hq := Ap) ?_
 have hc := (show ((DC.at_ 107)).Γ 74 = some (Spec.gen FV) from rfl)
 have hs := (@FV.eq_1)
 refine Pb (hq := by (first | ((repeat' apply And.intro) <;> first | rfl | exact (hsl0 u).symm | omega | exact hg1 | exact hg2 | exact True.intro) | exact AQ)) ?_
 refine AH (hq := Ap) ?_
 refine Ad (hq := Ap) ?_
 refine C3 (hq := Ap) ?_
 refine CQ (hq := Ap) ?_
 refine C9 (hq := Ap) ?_
 refine C3 (hq := Ap) ?_
 have hc := (show ((DC.at_ 107)).Γ 74 = some (Spec.gen FV) from rfl)
 have hs := (@FV.eq_1)
 refine Pb (hq := by (first | ((repeat' apply And.intro) <;> first | rfl | exact (hsl0 u).symm | omega | exact hg1 | exact hg2 | exact True.intro) | exact AQ)) ?_
 refine AH (hq := Ap) ?_
 refine Ad (hq := Ap) ?_
 refine CQ (hq := Ap) ?_
 refine C9 (hq := Ap) ?_
 refine DO (hq := Ap) ?_
 refine C3 (hq := Ap) ?_
 refine At Bb ?_
 refine At Bb ?_
 refine At Bb ?_
 refine At Bb ?_
 refine At Bb ?_
 refine At Bb ?_
 refine At Bb ?_
 refine At Bb ?_
 refine At Bb ?_
 refine At Bb ?_
 refine At Bb ?_
 refine At Bb ?_
 refine Gv (hq := Ap) ?_
 refine AH (hq := Ap) ?_
 refine Ab ?_
 have hx := hx0
 refine h27 _ ⟨false, ?_, [some 0, some 1, some 2, some 3, some 4, some 5], ?_⟩
 dsimp only
 rw [m1, m2]; rfl
 dsimp only
 refine ⟨by rfl, ?_, ?_⟩
 refine Aj ?_
 exact Cd
 refine Aj ?_
 exact Cd
 skip
 have hx := And.intro @hd1 (And.intro @hd2 (And.intro @hsl0 (And.intro @m1 (And.intro @m2 hx0))))
 refine Ac ?_
 refine Ar (hq := Ap) ?_
 refine Aq (hq := Ap) ?_
 refine Ao (hq := Ap) ?_
 refine Ad (hq := Ap) ?_
 refine C3 (hq := Ap) ?_
 refine CQ (hq := Ap) ?_
 refine C9 (hq := Ap) ?_
 refine C3 (hq := Ap) ?_
 have hc := (show ((DC.at_ 107)).Γ 74 = some (Spec.gen FV) from rfl)
 have hs := (@FV.eq_1)
 refine Pb (hq := by (first | ((repeat' apply And.intro) <;> first | rfl | exact (hsl0 u).symm | omega | exact hg1 | exact hg2 | exact True.intro) | exact AQ)) ?_
 refine AH (hq := Ap) ?_
 refine Ad (hq := Ap) ?_
 refine At Bb ?_
 refine At Bb ?_
 refine At Bb ?_
 refine At Bb ?_
 refine At Bb ?_
 refine AH (hq := Ap) ?_
 refine Ad (hq := Ap) ?_
 refine CQ (hq := Ap) ?_
 refine C9 (hq := Ap) ?_
 refine DO (hq := Ap) ?_
 refine C3 (hq := Ap) ?_
 refine At Bb ?_
 refine At Bb ?_
 refine At Bb ?_
 refine At Bb ?_
 refine At Bb ?_
 refine At Bb ?_
 refine At Bb ?_
 refine At Bb ?_
 refine At Bb ?_
 refine At Bb ?_
 refine At Bb ?_
 refine At Bb ?_
 refine Gv (hq := Ap) ?_
 refine AH (hq := Ap) ?_
 refine Ab ?_
 have hx := hx0
 refine h27 _ ⟨false, ?_, [some 0, some 1, some 2, some 3, some 4, some 5], ?_⟩
 dsimp only
 rw [m1]; rfl
 dsimp only
 refine ⟨by rfl, ?_, ?_⟩
 refine Aj ?_
 exact Cd
 refine Aj ?_
 exact Cd
 skip
 have hx := And.intro @hd1 (And.intro @hd2 (And.intro @hsl0 (And.intro @m1 (And.intro @m2 hx0))))
 refine Ac ?_
 refine Ar (hq := Ap) ?_
 refine Aq (hq := Ap) ?_
 refine Ao (hq := Ap) ?_
 refine Ad (hq := Ap) ?_
 refine At Bb ?_
 refine At Bb ?_
 refine At Bb ?_
 refine At Bb ?_
 refine At Bb ?_
 refine AH (hq := Ap) ?_
 refine Ad (hq := Ap) ?_
 refine At Bb ?_
 refine At Bb ?_
 refine At Bb ?_
 refine At Bb ?_
 refine At Bb ?_
 refine AH (hq := Ap) ?_
 refine Ad (hq := Ap) ?_
 refine CQ (hq := Ap) ?_
 refine C9 (hq := Ap) ?_
 refine DO (hq := Ap) ?_
 iterate 2 refine C3 (hq := Ap) ?_
 refine CQ (hq := Ap) ?_
 refine C9 (hq := Ap) ?_
 refine C3 (hq := Ap) ?_
 have hc := (show ((DC.at_ 107)).Γ 74 = some (Spec.gen FV) from rfl)
 have hs := (@FV.eq_1)
 refine Pb (hq := by (first | ((repeat' apply And.intro) <;> first | rfl | exact (hsl0 u).symm | omega | exact hg1 | exact hg2 | exact True.intro) | exact AQ)) ?_
 refine C3 (hq := Ap) ?_
 refine At Bb ?_
 refine At Bb ?_
 refine At Bb ?_
 refine At Bb ?_
 refine At Bb ?_
 iterate 2 refine Gv (hq := Ap) ?_
 refine AH (hq := Ap) ?_
 refine Ab ?_
 have hx := hx0
 refine h27 _ ⟨true, ?_, [some 0, some 1, some 2, some 3, some 4, some 5], ?_⟩
 dsimp only
 rw [m1]; rfl
 dsimp only
 refine ⟨by rfl, ?_, ?_⟩
 refine Aj ?_
 exact Cd
 refine Aj ?_
 exact Cd
 skip
 have hx := And.intro @hd1 (And.intro @hd2 (And.intro @hsl0 (And.intro @m1 (And.intro @m2 hx0))))
 refine Ac ?_
 refine Ar (hq := Ap) ?_
 refine Aq (hq := Ap) ?_
 refine Ao (hq := Ap) ?_
 refine Ad (hq := Ap) ?_
 refine At Bb ?_
 refine At Bb ?_
 refine At Bb ?_
 refine At Bb ?_
 refine At Bb ?_
 refine AH (hq := Ap) ?_
 refine Ad (hq := Ap) ?_
 refine At Bb ?_
 refine At Bb ?_
 refine At Bb ?_
 refine At Bb ?_
 refine At Bb ?_
 refine AH (hq := Ap) ?_
 refine Ad (hq := Ap) ?_
 refine CQ (hq := Ap) ?_
 refine C9 (hq := Ap) ?_
 refine DO (hq := Ap) ?_
 iterate 2 refine C3 (hq := Ap) ?_
 refine CQ (hq := Ap) ?_
 refine C9 (hq := Ap) ?_
 refine C3 (hq := Ap) ?_
 have hc := (show ((DC.at_ 107)).Γ 74 = some (Spec.gen FV) from rfl)
 have hs := (@FV.eq_1)
 refine Pb (hq := by (first | ((repeat' apply And.intro) <;> first | rfl | exact (hsl0 u).symm | omega | exact hg1 | exact hg2 | exact True.intro) | exact AQ)) ?_
 iterate 2 refine C3 (hq := Ap) ?_
 refine CQ (hq := Ap) ?_
 refine C9 (hq := Ap) ?_
 refine C3 (hq := Ap) ?_
 have hc := (show ((DC.at_ 107)).Γ 74 = some (Spec.gen FV) from rfl)
 have hs := (@FV.eq_1)
 refine Pb (hq := by (first | ((repeat' apply And.intro) <;> first | rfl | exact (hsl0 u).symm | omega | exact hg1 | exact hg2 | exact True.intro) | exact AQ)) ?_
 iterate 2 refine Gv (hq := Ap) ?_
 refine AH (hq := Ap) ?_
 refine Ab ?_
 have hx := hx0
 refine h27 _ ⟨decide (t ∈ sy), ?_, [some 0, some 1, some 2, some 3, some 4, some 5], ?_⟩
 dsimp only
 rw [m1, Z5, Bool.false_or]
 dsimp only
 refine ⟨by rfl, ?_, ?_⟩
 refine Aj ?_
 exact Cd
 refine Aj ?_
 exact Cd
 obtain rfl : j = l.length := by have := hb24; (try simp at this); omega
 refine AJ ?_
 simp only [Ae, Nat.reduceEqDiff, reduceIte, eq_self]
 refine h9 _ (Ac ?_); clear h9
 refine Ao (hq := Ap) ?_
 refine Ad (hq := Ap) ?_
 refine Ab ?_
 refine h5 _ ⟨(i + 1, u), ?_, ?_, [some 0, some 1, some 2, some 3, some 5], ?_⟩
 dsimp only
 omega
 dsimp only
 omega
 dsimp only
 refine ⟨by rfl, ?_, ?_⟩
 refine Aj ?_
 ·(repeat' apply And.intro) <;> (first | (first | (with_reducible rfl) | exact True.intro | trivial | omega | (rw [hnext, DI, hSl]; done) | (refine congrArg (OB.bag _ _) ?_; rw [hnext, C6, hN]; simp [rows]; done) | (refine congrArg (OB.bag _ _) ?_; rw [hnext, C6, hN]; done) | rfl) | exact Au)
 refine Aj ?_
 ·(repeat' apply And.intro) <;> (first | (first | (with_reducible rfl) | exact True.intro | trivial | omega | (rw [hnext, DI, hSl]; done) | (refine congrArg (OB.bag _ _) ?_; rw [hnext, C6, hN]; simp [rows]; done) | (refine congrArg (OB.bag _ _) ?_; rw [hnext, C6, hN]; done) | rfl) | exact Au)
 obtain rfl : i = q.length := by have := hb8; (try simp at this); omega
 have hSl := EF l P q q.length
 obtain ⟨T, s, hS⟩ : ∃ T s, DM l P q q.length = T ++ [s] := ⟨_, _, (List.dropLast_concat_getLast (l := DM l P q q.length) (fun h => by rw [h] at hSl; simp at hSl; omega)).symm⟩
 have hTl : T.length = q.length - 1 := by rw [hS] at hSl; simp at hSl; omega
 have hmq : Ju l P q = s := by unfold Ju; rw [hS, ← hTl, List.getD_eq_getElem?_getD]; simp
 have hsl := Ib (l := l) (P := P) (q := q) s (by rw [hS]; simp)
 have hqm : ((q.length : Int) - 1).toNat = T.length := by omega
 have hget := Jo (S := T) (n := q.length) (i := T.length) (x := [.raw v]) (Iu (by omega)) (by omega)
 have htln : ((Er T q.length).set T.length [.raw v]).length = q.length := by rw [List.length_set]; exact Iu (by omega)
 rw [hS, DI, C6]
 refine AJ ?_
 simp only [Ae, Nat.reduceEqDiff, reduceIte, eq_self]
 have hx := And.intro @hqm (And.intro @hget (And.intro @htln hx0))
 refine h3 _ (Aa fun N29 h29 => Ac ?_); clear h3
 iterate 2 refine Aq (hq := Ap) ?_
 refine AU (hq := Ap) ?_
 refine Ao (hq := Ap) ?_
 refine Ar (hq := Ap) ?_
 refine AS (by rfl) (Ld 4 (by rfl) (m1 := []) (m2 := []) (by simp only [wB, eq_self, Nat.reduceEqDiff, reduceIte, Dv, FJ, F7, BI, LO, hT, CZ, wL, Int.toNat_natCast, Int.reduceToNat, Nat.reduceAdd, Nat.reduceMul, Nat.reduceSub, Nat.reduceLeDiff, hx]; rfl) (by simp only [wB, eq_self, Nat.reduceEqDiff, reduceIte, and_true]) (by exact Ap) (by simp only [wB, eq_self, Nat.reduceEqDiff, reduceIte]; rfl) rfl ?_)
 try simp only [Bk, Cc, List.set, List.cons_append, List.nil_append, List.mem_cons, List.not_mem_nil, or_false, false_or, Nat.reduceEqDiff, Nat.reduceAdd, reduceIte, wB, eq_self, Nat.reduceEqDiff, reduceIte, wL, Int.toNat_natCast, Int.reduceToNat, Nat.reduceAdd, Nat.reduceMul, Nat.reduceSub, Nat.reduceLeDiff, hx]
 refine Ad (hq := Ap) ?_
 have hx := hx0
 refine Ab (h29 _ (Am ?_)); clear h29
 try simp only [Ae]
 rw [hmq]
 refine Aj ?_
 refine ⟨[some 5], by rfl, ?_, ?_⟩
 refine Aj ?_
 exact Au
 refine Aj ?_
 exact Au
 cases hg
def TU : Bq Tryz.prog := DC.add 50 (Spec.fresh ZJ) Ty (by kernel_rfl)
