import Derived.Test.YtmbjnkgpcbpclaaGreatT55
set_option linter.all false
set_option maxRecDepth 100000
set_option maxHeartbeats 4000000
namespace Go.Proofs.YtmbjnkgpcbpclaaGreat
open Go Go.Vc Go.RowKit
theorem Mm {q : List Sn} {i : Nat} (h : i ≤ q.length) : (Fe (Ef q) i).length = i := J6 (by rw [Dz]; exact h)
theorem Ub {q : List Sn} {i : Nat} {x : Sn} (h : q[i]? = some x) : Fe (Ef q) (i + 1) = Fe (Ef q) i ++ [CE x.kd] := by
  have : (Ef q)[i]? = some (nM x) := by unfold Ef; rw [List.getElem?_map, h]; rfl
  rw [Uc this]
  show _ ++ [ar (kM x.kd)] = _
  rw [NB]
theorem Aab {q : List Sn} {i : Nat} (hi : i < q.length) : FB (Fe (Ef q) (i + 1)) = KG (Dl q i) (CE (q.getD i default).kd) := by
  rw [XL (by rw [Dz]; omega), XV hi]; rfl
theorem okM {q : List Sn} {i m : Nat} (hm : m ≤ i) (hi : i ≤ q.length) (h : ∀ j, j < m → Cg q j = 0) : YD (Fe (Ef q) i) m := ZA hm (by rw [Dz]; exact hi) fun j hj => MU (by omega) (h j hj)
theorem Ue {q : List Sn} (h1 : 1 ≤ q.length) (h : ∀ j, j < q.length → Cg q j = 0) : FB (Fe (Ef q) q.length) = false := by
  have := WF (q := Ef q) (by rw [Dz]; exact h1) fun j hj => MU (by rw [Dz] at hj; exact hj) (h j (by rw [Dz] at hj; exact hj))
  rwa [Dz] at this
theorem Q4 {q : List Sn} {i : Nat} (hi : i ≤ q.length) (hb : FB (Fe (Ef q) i) = false) : Wa (Fe (Ef q) i) = -1 ∧ Ya (Fe (Ef q) i) = Dl q i := ZN (by rw [Dz]; exact hi) hb
theorem RE {q : List Sn} {i : Nat} (hi : i + 1 ≤ q.length) (hb : FB (Fe (Ef q) (i + 1)) = true) : Wa (Fe (Ef q) (i + 1)) = (i : Int) := YQ (by rw [Dz]; exact hi) hb
theorem Vv {q : List Sn} {i a : Nat} (h40 : q.length ≤ 40) (hi : i + 1 ≤ q.length) (h : ∀ j, j < i → Cg q j = 0) (ha : a ≤ 2) (hb : KG (Dl q i) a = false) :
    (((a : Nat) : Int) = 2 → 1 ≤ (i : Int) ∧ (Dl q (i + 1)).getD (((i : Nat) : Int).toNat - 1) 0 ≤ 1000) ∧
    (if ((a : Nat) : Int) = 1 then (i : Int) - 1 else if ((a : Nat) : Int) = 2 then (i : Int) - 1 - ((Dl q (i + 1)).getD (((i : Nat) : Int).toNat - 1) 0 : Nat) else 0) = KL (Dl q i) a ∧
    (if ((a : Nat) : Int) = 2 then (i : Int) - 1 else 0) = Nk (Dl q i) a := ZB (by rw [Dz]; exact h40) (by rw [Dz]; exact hi) (fun j hj => MU (by omega) (h j hj)) ha hb
theorem Xn {b : Bs} (h : (decide (1 ≤ (b.length : Int)) && decide ((b.length : Int) ≤ 80)) = false) : Gr b = false := by
  unfold Gr
  rw [Bool.and_eq_false_iff, decide_eq_false_iff_not, decide_eq_false_iff_not] at h
  have : (decide (1 ≤ b.length) && decide (b.length ≤ 80)) = false := by rw [Bool.and_eq_false_iff, decide_eq_false_iff_not, decide_eq_false_iff_not]; omega
  rw [this]; rfl
theorem TA (a : Int) (u h : Bool) : ¬a = 1 ∨ (a = 1 ∧ u = false) ∨ (a = 1 ∧ u = true ∧ h = true) ∨ (a = 1 ∧ u = true ∧ h = false) := by
  by_cases ha : a = 1
  · cases u <;> cases h <;> simp [ha]
  · exact .inl ha
theorem Vt {b : Bs} (h : (decide (1 ≤ (b.length : Int)) && decide ((b.length : Int) ≤ 80)) = true) : b.length ≤ 80 := by
  rw [Bool.and_eq_true, decide_eq_true_eq, decide_eq_true_eq] at h; omega
theorem Vu {b : Bs} (h : (decide (1 ≤ (b.length : Int)) && decide ((b.length : Int) ≤ 80)) = true) : Gr b = !(DZ b [10]) := by
  unfold Gr
  rw [Bool.and_eq_true, decide_eq_true_eq, decide_eq_true_eq] at h
  rw [decide_eq_true (p := 1 ≤ b.length) (by omega), decide_eq_true (p := b.length ≤ 80) (by omega), Rd]; rfl
theorem It {p : Prop} (h : p := by (first | ((repeat' apply And.intro) <;> first | rfl | omega | (simp; done) | (simp; omega)) | exact AQ)) : p := h
theorem OL : A5 Tryz.prog 12 (Spec.pure OM) := by
 refine A1 (CB.at_ 115) Tryz.func12 rfl rfl rfl ?_
 intro args p r hg hp
 unfold OM at hg
 split at hg
 rename_i xs
 simp only [Option.some.injEq, Prod.mk.injEq] at hg
 obtain ⟨rfl, rfl⟩ := hg
 obtain ⟨he, hl, hbg⟩ := hp
 generalize C8 xs = q at *
 subst he
 have hT : (CB).X = T := rfl
 have hx0 := And.intro @BL (And.intro @AL (And.intro @Mx (And.intro @Nh (And.intro @Ci (And.intro @Ch @Tryz.results12)))))
 have hx := hx0
 refine ⟨by rfl, ?_⟩
 intro F W0 hnp hmk
 refine Aa fun N1 h1 => Ac ?_
 refine Az ?_
 refine Fz ?_
 refine Bj ?_
 refine Ab (h1 _ (Aa fun N2 h2 => ?_)); clear h1
 refine Aa fun N3 h3 => Ac ?_
 refine Ar ?_
 refine Aq ?_
 refine AU ?_
 have hc := Ag (E := (CB.at_ 115)) (f := 35) (sp := Spec.pure SN) rfl
 have hs := @SN.eq_1
 refine Ba ?_
 refine EL ?_
 refine Ab (h3 _ (Ak (fun hb4 => ?_) (fun hb4 => ?_))); clear h3
 refine Aa fun N5 h5 => Ac ?_
 have hc := Ag (E := (CB.at_ 115)) (f := 21) (sp := Spec.pure B3) rfl
 have hs := @B3.eq_1
 refine Ba ?_
 refine A4 ?_
 refine Ab (h5 _ (Am ?_)); clear h5
 try simp only [Ae]
 have hr : Lc q = (9, -1) := by unfold Lc; rw [if_pos (by have := hb4; simpa using this)]
 rw [hr]
 refine Aw ?_
 exact Au
 have h1 : 1 ≤ q.length := by have := hb4; (try simp at this); omega
 have h40 : q.length ≤ 40 := by have := hb4; (try simp at this); omega
 refine An ?_
 try simp only [Ae]
 refine h2 _ (Aa fun N6 h6 => Ac ?_); clear h2
 refine Ad ?_
 refine Ab (h6 _ (Aa fun N7 h7 => ?_)); clear h6
 refine Aa fun N8 h8 => Ac ?_
 refine Ad ?_
 refine Ab (h8 _ (As ?_)); clear h8
 refine A3 (σ := Nat) (fun s => (fun i => i ≤ q.length ∧ ∀ j, j < i → Cg q j = 0) s)
  (fun s => (fun i => [(1, .ptr 0 0 0), (2, .ptr 1 0 0), (3, .sl 2 0 i), (4, .d (.int .i64 (i : Nat)))]) s)
  (fun s => (fun i => [some (.one 25 [.d (.sl (rows Ec q))]), some (.one 29 [.d (.int .i64 0), .d (.int .i64 0)]), some (.vec 3 1 (rows eI (zI (Fe (Ef q) i))))]) s) (fun s => (fun i => q.length - i) s) hnp 0 ?_ [some 0, some 1, none] ?_ ?_
 dsimp only
 exact ⟨by omega, fun j hj => by omega⟩
 dsimp only
 refine ⟨by rfl, ?_, ?_⟩
 refine Aj ?_
 exact Au
 refine Aj ?_
 exact Au
 rintro i hinv N9 h9
 dsimp only at hinv ⊢
 obtain ⟨i1, i2⟩ := hinv
 refine Aa fun N10 h10 => ?_
 refine Aa fun N11 h11 => Ac ?_
 refine Az ?_
 refine Ad ?_
 refine Ar ?_
 refine Aq ?_
 refine AU ?_
 refine Ao ?_
 refine Ab (h11 _ (Ak (fun hb12 => ?_) (fun hb12 => ?_))); clear h11
 have hiq : i < q.length := by have := hb12; omega
 obtain ⟨x, hxe⟩ := BA (l := q) (i := i) hiq
 have hxd : q.getD i default = x := by rw [List.getD_eq_getElem?_getD, hxe]; rfl
 have hbx := hbg x (AB hxe)
 have hal := Mm (q := q) (i := i) (by omega)
 have hal1 := Mm (q := q) (i := i + 1) (by omega)
 have has := Ub hxe
 have hzs := RM (Fe (Ef q) i) (CE x.kd)
 have hzt := JH (Fe (Ef q) i)
 rw [hal] at hzt
 have har := MW x.kd
 have hbq := Aab (q := q) (i := i) hiq
 rw [hxd] at hbq
 have hokA : YD (Fe (Ef q) (i + 1)) ((Fe (Ef q) (i + 1)).length - 1) := by rw [hal1]; exact okM (by omega) (by omega) i2
 have hsl : (Dl q (i + 1)).length = i + 1 := E9 _ _
 obtain ⟨a, b, c, d⟩ := x
 dsimp only at has hzs har hbq hbx
 have hsx : rows eI (List.take i (zI (Fe (Ef q) i))) ++ [[D.int IntKind.i64 ((CE a : Nat) : Int)]] = rows eI (zI (Fe (Ef q) (i + 1))) := by rw [hzt, hzs, ← has]
 refine An ?_
 try simp only [Ae]
 refine h10 _ (Aa fun N13 h13 => As ?_); clear h10
 have hx := And.intro @hxe (And.intro @Ec.eq_1 hx0)
 refine Aa fun N14 h14 => Ac ?_
 refine Ar ?_
 refine Aq ?_
 refine Ad ?_
 refine Ar ?_
 refine Aq ?_
 refine Bj ?_
 refine A4 ?_
 have hx := hx0
 refine Ab (h14 _ (Aa fun N15 h15 => ?_)); clear h14
 refine Aa fun N16 h16 => Ac ?_
 refine Ar ?_
 refine Aq ?_
 have hc := Ag (E := (CB.at_ 115)) (f := 35) (sp := Spec.pure SN) rfl
 have hs := @SN.eq_1
 refine Ba ?_
 refine EL ?_
 refine Ab (h16 _ (Ak (fun hb17 => ?_) (fun hb17 => ?_))); clear h16
 have g1 : a < 1 ∨ 4 < a := by have := hb17; (try simp at this); omega
 refine Aa fun N18 h18 => Ac ?_
 refine Ad ?_
 have hc := Ag (E := (CB.at_ 115)) (f := 21) (sp := Spec.pure B3) rfl
 have hs := @B3.eq_1
 refine Ba ?_
 refine A4 ?_
 refine Ab (h18 _ (Am ?_)); clear h18
 try simp only [Ae]
 have hrc : Cg q i = 4 := by
  unfold Cg Is; rw [hxd]; dsimp only; rw [if_pos g1]
 have hr := E5 h1 h40 hiq i2 hrc (by decide)
 rw [hr]
 refine Aw ?_
 exact Au
 have g1 : ¬(a < 1 ∨ 4 < a) := by have := hb17; (try simp at this); omega
 refine An ?_
 try simp only [Ae]
 refine h15 _ (Aa fun N19 h19 => Aa fun N20 h20 => ?_); clear h15
 rcases TA a (decide (1 ≤ (b.length : Int)) && decide ((b.length : Int) ≤ 80)) (DZ b [10]) with ga | ⟨ga, f2⟩ | ⟨ga, f2, f3⟩ | ⟨ga, f2, f3⟩
 have f1 : (a = 1) = False := eq_false ga
 have f2 := True.intro
 have f3 := True.intro
 have c2 : ¬(a = 1 ∧ Gr b = false) := fun h => ga h.1
 have hx := And.intro @f1 (And.intro @f2 (And.intro @f3 hx0))
 refine Ac ?_
 refine Ar ?_
 refine Aq ?_
 refine Ao ?_
 refine Ad ?_
 refine At Bb ?_
 refine At Bb ?_
 refine At Bb ?_
 refine At Bb ?_
 refine At Bb ?_
 refine At Bb ?_
 refine At Bb ?_
 refine At Bb ?_
 refine At Bb ?_
 refine At Bb ?_
 refine AH ?_
 have hx := hx0
 refine Ab (h20 _ (Ak (fun hb21 => ?_) (fun hb21 => ?_))); clear h20
 exact CJ hb21
 refine An ?_
 try simp only [Ae]
 refine h19 _ (Aa fun N22 h22 => ?_); clear h19
 refine Eu [37] ER (by kernel_rfl) ?_
 refine Ad ?_
 refine Ar ?_
 refine Aq ?_
 have hc := Ag (E := (CB.at_ 115)) (f := 37) (sp := Spec.pure FS) rfl
 have hs := @FS.eq_1
 refine Ba ?_
 refine Di ?_
 refine Bf ?_
 refine Ad ?_
 refine Ab (h22 _ (Aa fun N23 h23 => ?_)); clear h22
 rcases (show FB (Fe (Ef q) (i + 1)) = false ∨ FB (Fe (Ef q) (i + 1)) = true by cases FB (Fe (Ef q) (i + 1)) <;> simp) with hb | hb
 obtain ⟨hsX, hsO⟩ := Q4 (q := q) (i := i + 1) (by omega) hb
 have hsb := hbq.symm.trans hb
 obtain ⟨ho1, ho2, ho3⟩ := Vv (q := q) (i := i) h40 (by omega) i2 har hsb
 have hx := And.intro @hsx (And.intro @hsX (And.intro @hsO hx0))
 refine Ac ?_
 refine Ad ?_
 have hc := Ag (E := (CB.at_ 115)) (f := 38) (sp := Spec.gen IX) rfl
 have hs := @IX.eq_1
 refine BM (hq := by (first | ((repeat' apply And.intro) <;> first | rfl | omega | exact GP | exact hokA) | exact AQ)) ?_
 refine Ad ?_
 iterate 2 refine Dt ?_
 iterate 2 refine Ad ?_
 have hx := hx0
 refine Ab (h23 _ (Aa fun N24 h24 => Aa fun N25 h25 => ?_)); clear h23
 have ng1 : ((0 : Int) ≤ -1) = False := eq_false (by decide)
 rcases (show b = [] ∨ b ≠ [] by by_cases h : b = []; exact .inl h; exact .inr h) with gb | gb
 have f4 : (b = []) = True := eq_true gb
 have c3 : ¬(a ≠ 1 ∧ b ≠ []) := fun h => h.2 gb
 have hx := And.intro @f1 (And.intro @f4 (And.intro @ng1 hx0))
 refine Ac ?_
 refine Ad ?_
 refine Ao ?_
 refine Ad ?_
 refine CQ ?_
 refine C9 ?_
 refine DO ?_
 refine C3 ?_
 refine CQ ?_
 refine C9 ?_
 refine DO ?_
 refine Gv ?_
 refine AH ?_
 have hx := hx0
 refine Ab (h25 _ (Ak (fun hb26 => ?_) (fun hb26 => ?_))); clear h25
 exact CJ hb26
 refine An ?_
 try simp only [Ae]
 have hx := And.intro @ho2 (And.intro @ho3 hx0)
 refine h24 _ (Aa fun N27 h27 => Ac ?_); clear h24
 refine Ar ?_
 refine Aq ?_
 have hc := Ag (E := (CB.at_ 115)) (f := 37) (sp := Spec.pure FS) rfl
 have hs := @FS.eq_1
 refine Ba ?_
 iterate 2 refine Ad ?_
 have hc := Ag (E := (CB.at_ 115)) (f := 39) (sp := Spec.pure Ql) rfl
 have hs := @Ql.eq_1
 refine Ba (hq := by (first | ((repeat' apply And.intro) <;> first | rfl | omega | exact ho1) | exact AQ)) ?_
 refine Ad ?_
 iterate 2 refine Dt ?_
 iterate 2 refine Ad ?_
 have hx := hx0
 refine Ab (h27 _ (Aa fun N28 h28 => ?_)); clear h27
 rcases (show (c = KL (Dl q i) (CE a) ∧ d = Nk (Dl q i) (CE a)) ∨ (c = KL (Dl q i) (CE a) ∧ d ≠ Nk (Dl q i) (CE a)) ∨ c ≠ KL (Dl q i) (CE a) by by_cases h : c = KL (Dl q i) (CE a) <;> by_cases h' : d = Nk (Dl q i) (CE a) <;> simp [h, h']) with ⟨e1, e2⟩ | ⟨e1, e2⟩ | e1
 have f1 : (c = KL (Dl q i) (CE a)) = True := eq_true e1
 have f2 : (d = Nk (Dl q i) (CE a)) = True := eq_true e2
 have hx := And.intro @f1 (And.intro @f2 hx0)
 refine Ac ?_
 refine Ar ?_
 refine Aq ?_
 refine Ad ?_
 refine Ao ?_
 refine Ad ?_
 refine B9 ?_
 refine B8 ?_
 refine Cw ?_
 refine CD ?_
 refine AH ?_
 have hx := hx0
 refine Ab (h28 _ (Ak (fun hb29 => ?_) (fun hb29 => ?_))); clear h28
 exact CJ hb29
 refine An ?_
 try simp only [Ae]
 refine h13 _ (Ac ?_); clear h13
 refine Ad ?_
 refine Ao ?_
 refine Ad ?_
 refine Ab ?_
 have hrc : Cg q i = 0 := by
  unfold Cg Is; rw [hxd]; dsimp only; rw [if_neg g1, if_neg c2, if_neg c3, if_neg (by rw [hsb]; simp), if_pos ⟨e1, e2⟩]
 refine h9 _ ⟨i + 1, ?_, ?_, [some 0, some 1, some 5], ?_⟩
 dsimp only
 exact ⟨by omega, Fv i2 hrc⟩
 dsimp only
 omega
 dsimp only
 refine ⟨by rfl, ?_, ?_⟩
 refine Aj ?_
 ·(repeat' apply And.intro) <;> (first | (first | rfl | trivial | omega | (rw [hsx]; done) | exact Or.inl rfl) | exact Au)
 refine Aj ?_
 ·(repeat' apply And.intro) <;> (first | (first | rfl | trivial | omega | (rw [hsx]; done) | exact Or.inl rfl) | exact Au)
 have f1 : (c = KL (Dl q i) (CE a)) = True := eq_true e1
 have f2 : (d = Nk (Dl q i) (CE a)) = False := eq_false e2
 have hx := And.intro @f1 (And.intro @f2 hx0)
 refine Ac ?_
 refine Ar ?_
 refine Aq ?_
 refine Ad ?_
 refine Ao ?_
 refine Ad ?_
 refine B9 ?_
 refine B8 ?_
 refine Cw ?_
 refine CD ?_
 refine AH ?_
 have hx := hx0
 refine Ab (h28 _ (Ak (fun hb30 => ?_) (fun hb30 => ?_))); clear h28
 refine Aa fun N31 h31 => Ac ?_
 refine Ad ?_
 have hc := Ag (E := (CB.at_ 115)) (f := 21) (sp := Spec.pure B3) rfl
 have hs := @B3.eq_1
 refine Ba ?_
 refine A4 ?_
 refine Ab (h31 _ (Am ?_)); clear h31
 try simp only [Ae]
 have hrc : Cg q i = 5 := by
  unfold Cg Is; rw [hxd]; dsimp only; rw [if_neg g1, if_neg c2, if_neg c3, if_neg (by rw [hsb]; simp), if_neg (fun h => e2 h.2)]
 have hr := E5 h1 h40 hiq i2 hrc (by decide)
 rw [hr]
 refine Aw ?_
 exact Au
 exact CJ hb30
 have f1 : (c = KL (Dl q i) (CE a)) = False := eq_false e1
 have f2 : True := trivial
 have hx := And.intro @f1 (And.intro @f2 hx0)
 refine Ac ?_
 refine Ar ?_
 refine Aq ?_
 refine Ad ?_
 refine Ao ?_
 refine Ad ?_
 refine B9 ?_
 refine B8 ?_
 refine Cw ?_
 refine CD ?_
 refine AH ?_
 have hx := hx0
 refine Ab (h28 _ (Ak (fun hb32 => ?_) (fun hb32 => ?_))); clear h28
 refine Aa fun N33 h33 => Ac ?_
 refine Ad ?_
 have hc := Ag (E := (CB.at_ 115)) (f := 21) (sp := Spec.pure B3) rfl
 have hs := @B3.eq_1
 refine Ba ?_
 refine A4 ?_
 refine Ab (h33 _ (Am ?_)); clear h33
 try simp only [Ae]
 have hrc : Cg q i = 5 := by
  unfold Cg Is; rw [hxd]; dsimp only; rw [if_neg g1, if_neg c2, if_neg c3, if_neg (by rw [hsb]; simp), if_neg (fun h => e1 h.1)]
 have hr := E5 h1 h40 hiq i2 hrc (by decide)
 rw [hr]
 refine Aw ?_
 exact Au
 exact CJ hb32
 have f4 : (b = []) = False := eq_false gb
 have hx := And.intro @f1 (And.intro @f4 (And.intro @ng1 hx0))
 refine Ac ?_
 refine Ad ?_
 refine Ao ?_
 refine Ad ?_
 refine CQ ?_
 refine C9 ?_
 refine DO ?_
 refine C3 ?_
 refine CQ ?_
 refine C9 ?_
 refine DO ?_
 refine Gv ?_
 refine AH ?_
 have hx := hx0
 refine Ab (h25 _ (Ak (fun hb34 => ?_) (fun hb34 => ?_))); clear h25
 refine Aa fun N35 h35 => Ac ?_
 refine Ad ?_
 have hc := Ag (E := (CB.at_ 115)) (f := 21) (sp := Spec.pure B3) rfl
 have hs := @B3.eq_1
 refine Ba ?_
 refine A4 ?_
 refine Ab (h35 _ (Am ?_)); clear h35
 try simp only [Ae]
 have hrc : Cg q i = 5 := by
  unfold Cg Is; rw [hxd]; dsimp only; rw [if_neg g1, if_neg c2, if_pos ⟨ga, gb⟩]
 have hr := E5 h1 h40 hiq i2 hrc (by decide)
 rw [hr]
 refine Aw ?_
 exact Au
 exact CJ hb34
 have hsX := RE (q := q) (i := i) (by omega) hb
 have hsO : True := trivial
 have hsb := hbq.symm.trans hb
 have hx := And.intro @hsx (And.intro @hsX (And.intro @hsO hx0))
 refine Ac ?_
 refine Ad ?_
 have hc := Ag (E := (CB.at_ 115)) (f := 38) (sp := Spec.gen IX) rfl
 have hs := @IX.eq_1
 refine BM (hq := by (first | ((repeat' apply And.intro) <;> first | rfl | omega | exact GP | exact hokA) | exact AQ)) ?_
 refine Ad ?_
 iterate 2 refine Dt ?_
 iterate 2 refine Ad ?_
 have hx := hx0
 refine Ab (h23 _ (Aa fun N36 h36 => Aa fun N37 h37 => ?_)); clear h23
 have ng2 : ((0 : Int) ≤ (i : Int)) = True := eq_true (by omega)
 have hx := And.intro @ng2 hx0
 refine Ac ?_
 refine Ad ?_
 refine Ao ?_
 refine Ad ?_
 refine At Bb ?_
 refine At Bb ?_
 refine At Bb ?_
 refine At Bb ?_
 refine At Bb ?_
 refine At Bb ?_
 refine At Bb ?_
 refine At Bb ?_
 refine AH ?_
 have hx := hx0
 refine Ab (h37 _ (Ak (fun hb38 => ?_) (fun hb38 => ?_))); clear h37
 refine Aa fun N39 h39 => Ac ?_
 refine Ad ?_
 have hc := Ag (E := (CB.at_ 115)) (f := 21) (sp := Spec.pure B3) rfl
 have hs := @B3.eq_1
 refine Ba ?_
 refine A4 ?_
 refine Ab (h39 _ (Am ?_)); clear h39
 try simp only [Ae]
 have hrc : Cg q i = 5 := by
  unfold Cg Is; rw [hxd]; dsimp only; rw [if_neg g1, if_neg c2, if_pos hsb, ite_self]
 have hr := E5 h1 h40 hiq i2 hrc (by decide)
 rw [hr]
 refine Aw ?_
 exact Au
 exact CJ hb38
 have f1 : (a = 1) = True := eq_true ga
 have f3 := True.intro
 have hkt := Xn f2
 have hx := And.intro @f1 (And.intro @f2 (And.intro @f3 hx0))
 refine Ac ?_
 refine Ar ?_
 refine Aq ?_
 refine Ao ?_
 refine Ad ?_
 refine CQ ?_
 refine C9 ?_
 refine J2 ?_
 have hc := Ag (E := (CB.at_ 115)) (f := 35) (sp := Spec.pure SN) rfl
 have hs := @SN.eq_1
 refine Lf ?_
 refine Wp ?_
 refine C3 ?_
 refine At Bb ?_
 refine At Bb ?_
 refine At Bb ?_
 refine Gv ?_
 refine AH ?_
 have hx := hx0
 refine Ab (h20 _ (Ak (fun hb40 => ?_) (fun hb40 => ?_))); clear h20
 refine Aa fun N41 h41 => Ac ?_
 refine Ad ?_
 have hc := Ag (E := (CB.at_ 115)) (f := 21) (sp := Spec.pure B3) rfl
 have hs := @B3.eq_1
 refine Ba ?_
 refine A4 ?_
 refine Ab (h41 _ (Am ?_)); clear h41
 try simp only [Ae]
 have hrc : Cg q i = 3 := by
  unfold Cg Is; rw [hxd]; dsimp only; rw [if_neg g1, if_pos ⟨ga, hkt⟩]
 have hr := E5 h1 h40 hiq i2 hrc (by decide)
 rw [hr]
 refine Aw ?_
 exact Au
 exact CJ hb40
 have f1 : (a = 1) = True := eq_true ga
 have hkt := Vu f2
 have hb80 := Vt f2
 rw [f3] at hkt
 have hx := And.intro @f1 (And.intro @f2 (And.intro @f3 hx0))
 refine Ac ?_
 refine Ar ?_
 refine Aq ?_
 refine Ao ?_
 refine Ad ?_
 refine CQ ?_
 refine C9 ?_
 refine J2 ?_
 have hc := Ag (E := (CB.at_ 115)) (f := 35) (sp := Spec.pure SN) rfl
 have hs := @SN.eq_1
 refine Lf ?_
 refine Wp ?_
 refine C3 ?_
 refine CQ ?_
 refine C9 ?_
 have hc := Ag (E := (CB.at_ 115)) (f := 36) (sp := Spec.pure HQ) rfl
 have hs := @HQ.eq_1
 refine Lf (hq := It) ?_
 refine Gv ?_
 refine AH ?_
 have hx := hx0
 refine Ab (h20 _ (Ak (fun hb42 => ?_) (fun hb42 => ?_))); clear h20
 refine Aa fun N43 h43 => Ac ?_
 refine Ad ?_
 have hc := Ag (E := (CB.at_ 115)) (f := 21) (sp := Spec.pure B3) rfl
 have hs := @B3.eq_1
 refine Ba ?_
 refine A4 ?_
 refine Ab (h43 _ (Am ?_)); clear h43
 try simp only [Ae]
 have hrc : Cg q i = 3 := by
  unfold Cg Is; rw [hxd]; dsimp only; rw [if_neg g1, if_pos ⟨ga, hkt⟩]
 have hr := E5 h1 h40 hiq i2 hrc (by decide)
 rw [hr]
 refine Aw ?_
 exact Au
 exact CJ hb42
 have f1 : (a = 1) = True := eq_true ga
 have hkt := Vu f2
 have hb80 := Vt f2
 rw [f3] at hkt
 have c2 : ¬(a = 1 ∧ Gr b = false) := fun h => by rw [hkt] at h; cases h.2
 have c3 : ¬(a ≠ 1 ∧ b ≠ []) := fun h => h.1 ga
 have hx := And.intro @f1 (And.intro @f2 (And.intro @f3 hx0))
 refine Ac ?_
 refine Ar ?_
 refine Aq ?_
 refine Ao ?_
 refine Ad ?_
 refine CQ ?_
 refine C9 ?_
 refine J2 ?_
 have hc := Ag (E := (CB.at_ 115)) (f := 35) (sp := Spec.pure SN) rfl
 have hs := @SN.eq_1
 refine Lf ?_
 refine Wp ?_
 refine C3 ?_
 refine CQ ?_
 refine C9 ?_
 have hc := Ag (E := (CB.at_ 115)) (f := 36) (sp := Spec.pure HQ) rfl
 have hs := @HQ.eq_1
 refine Lf (hq := It) ?_
 refine Gv ?_
 refine AH ?_
 have hx := hx0
 refine Ab (h20 _ (Ak (fun hb44 => ?_) (fun hb44 => ?_))); clear h20
 exact CJ hb44
 refine An ?_
 try simp only [Ae]
 refine h19 _ (Aa fun N45 h45 => ?_); clear h19
 refine Eu [37] ER (by kernel_rfl) ?_
 refine Ad ?_
 refine Ar ?_
 refine Aq ?_
 have hc := Ag (E := (CB.at_ 115)) (f := 37) (sp := Spec.pure FS) rfl
 have hs := @FS.eq_1
 refine Ba ?_
 refine Di ?_
 refine Bf ?_
 refine Ad ?_
 refine Ab (h45 _ (Aa fun N46 h46 => ?_)); clear h45
 rcases (show FB (Fe (Ef q) (i + 1)) = false ∨ FB (Fe (Ef q) (i + 1)) = true by cases FB (Fe (Ef q) (i + 1)) <;> simp) with hb | hb
 obtain ⟨hsX, hsO⟩ := Q4 (q := q) (i := i + 1) (by omega) hb
 have hsb := hbq.symm.trans hb
 obtain ⟨ho1, ho2, ho3⟩ := Vv (q := q) (i := i) h40 (by omega) i2 har hsb
 have hx := And.intro @hsx (And.intro @hsX (And.intro @hsO hx0))
 refine Ac ?_
 refine Ad ?_
 have hc := Ag (E := (CB.at_ 115)) (f := 38) (sp := Spec.gen IX) rfl
 have hs := @IX.eq_1
 refine BM (hq := by (first | ((repeat' apply And.intro) <;> first | rfl | omega | exact GP | exact hokA) | exact AQ)) ?_
 refine Ad ?_
 iterate 2 refine Dt ?_
 iterate 2 refine Ad ?_
 have hx := hx0
 refine Ab (h46 _ (Aa fun N47 h47 => Aa fun N48 h48 => ?_)); clear h46
 have ng1 : ((0 : Int) ≤ -1) = False := eq_false (by decide)
 have hx := And.intro @f1 (And.intro @ng1 hx0)
 refine Ac ?_
 refine Ad ?_
 refine Ao ?_
 refine Ad ?_
 refine CQ ?_
 refine C9 ?_
 refine DO ?_
 refine C3 ?_
 refine At Bb ?_
 refine At Bb ?_
 refine At Bb ?_
 refine Gv ?_
 refine AH ?_
 have hx := hx0
 refine Ab (h48 _ (Ak (fun hb49 => ?_) (fun hb49 => ?_))); clear h48
 exact CJ hb49
 refine An ?_
 try simp only [Ae]
 have hx := And.intro @ho2 (And.intro @ho3 hx0)
 refine h47 _ (Aa fun N50 h50 => Ac ?_); clear h47
 refine Ar ?_
 refine Aq ?_
 have hc := Ag (E := (CB.at_ 115)) (f := 37) (sp := Spec.pure FS) rfl
 have hs := @FS.eq_1
 refine Ba ?_
 iterate 2 refine Ad ?_
 have hc := Ag (E := (CB.at_ 115)) (f := 39) (sp := Spec.pure Ql) rfl
 have hs := @Ql.eq_1
 refine Ba (hq := by (first | ((repeat' apply And.intro) <;> first | rfl | omega | exact ho1) | exact AQ)) ?_
 refine Ad ?_
 iterate 2 refine Dt ?_
 iterate 2 refine Ad ?_
 have hx := hx0
 refine Ab (h50 _ (Aa fun N51 h51 => ?_)); clear h50
 rcases (show (c = KL (Dl q i) (CE a) ∧ d = Nk (Dl q i) (CE a)) ∨ (c = KL (Dl q i) (CE a) ∧ d ≠ Nk (Dl q i) (CE a)) ∨ c ≠ KL (Dl q i) (CE a) by by_cases h : c = KL (Dl q i) (CE a) <;> by_cases h' : d = Nk (Dl q i) (CE a) <;> simp [h, h']) with ⟨e1, e2⟩ | ⟨e1, e2⟩ | e1
 have f1 : (c = KL (Dl q i) (CE a)) = True := eq_true e1
 have f2 : (d = Nk (Dl q i) (CE a)) = True := eq_true e2
 have hx := And.intro @f1 (And.intro @f2 hx0)
 refine Ac ?_
 refine Ar ?_
 refine Aq ?_
 refine Ad ?_
 refine Ao ?_
 refine Ad ?_
 refine B9 ?_
 refine B8 ?_
 refine Cw ?_
 refine CD ?_
 refine AH ?_
 have hx := hx0
 refine Ab (h51 _ (Ak (fun hb52 => ?_) (fun hb52 => ?_))); clear h51
 exact CJ hb52
 refine An ?_
 try simp only [Ae]
 refine h13 _ (Ac ?_); clear h13
 refine Ad ?_
 refine Ao ?_
 refine Ad ?_
 refine Ab ?_
 have hrc : Cg q i = 0 := by
  unfold Cg Is; rw [hxd]; dsimp only; rw [if_neg g1, if_neg c2, if_neg c3, if_neg (by rw [hsb]; simp), if_pos ⟨e1, e2⟩]
 refine h9 _ ⟨i + 1, ?_, ?_, [some 0, some 1, some 5], ?_⟩
 dsimp only
 exact ⟨by omega, Fv i2 hrc⟩
 dsimp only
 omega
 dsimp only
 refine ⟨by rfl, ?_, ?_⟩
 refine Aj ?_
 ·(repeat' apply And.intro) <;> (first | (first | rfl | trivial | omega | (rw [hsx]; done) | exact Or.inl rfl) | exact Au)
 refine Aj ?_
 ·(repeat' apply And.intro) <;> (first | (first | rfl | trivial | omega | (rw [hsx]; done) | exact Or.inl rfl) | exact Au)
 have f1 : (c = KL (Dl q i) (CE a)) = True := eq_true e1
 have f2 : (d = Nk (Dl q i) (CE a)) = False := eq_false e2
 have hx := And.intro @f1 (And.intro @f2 hx0)
 refine Ac ?_
 refine Ar ?_
 refine Aq ?_
 refine Ad ?_
 refine Ao ?_
 refine Ad ?_
 refine B9 ?_
 refine B8 ?_
 refine Cw ?_
 refine CD ?_
 refine AH ?_
 have hx := hx0
 refine Ab (h51 _ (Ak (fun hb53 => ?_) (fun hb53 => ?_))); clear h51
 refine Aa fun N54 h54 => Ac ?_
 refine Ad ?_
 have hc := Ag (E := (CB.at_ 115)) (f := 21) (sp := Spec.pure B3) rfl
 have hs := @B3.eq_1
 refine Ba ?_
 refine A4 ?_
 refine Ab (h54 _ (Am ?_)); clear h54
 try simp only [Ae]
 have hrc : Cg q i = 5 := by
  unfold Cg Is; rw [hxd]; dsimp only; rw [if_neg g1, if_neg c2, if_neg c3, if_neg (by rw [hsb]; simp), if_neg (fun h => e2 h.2)]
 have hr := E5 h1 h40 hiq i2 hrc (by decide)
 rw [hr]
 refine Aw ?_
 exact Au
 exact CJ hb53
 have f1 : (c = KL (Dl q i) (CE a)) = False := eq_false e1
 have f2 : True := trivial
 have hx := And.intro @f1 (And.intro @f2 hx0)
 refine Ac ?_
 refine Ar ?_
 refine Aq ?_
 refine Ad ?_
 refine Ao ?_
 refine Ad ?_
 refine B9 ?_
 refine B8 ?_
 refine Cw ?_
 refine CD ?_
 refine AH ?_
 have hx := hx0
 refine Ab (h51 _ (Ak (fun hb55 => ?_) (fun hb55 => ?_))); clear h51
 refine Aa fun N56 h56 => Ac ?_
 refine Ad ?_
 have hc := Ag (E := (CB.at_ 115)) (f := 21) (sp := Spec.pure B3) rfl
 have hs := @B3.eq_1
 refine Ba ?_
 refine A4 ?_
 refine Ab (h56 _ (Am ?_)); clear h56
 try simp only [Ae]
 have hrc : Cg q i = 5 := by
  unfold Cg Is; rw [hxd]; dsimp only; rw [if_neg g1, if_neg c2, if_neg c3, if_neg (by rw [hsb]; simp), if_neg (fun h => e1 h.1)]
 have hr := E5 h1 h40 hiq i2 hrc (by decide)
 rw [hr]
 refine Aw ?_
 exact Au
 exact CJ hb55
 have hsX := RE (q := q) (i := i) (by omega) hb
 have hsO : True := trivial
 have hsb := hbq.symm.trans hb
 have hx := And.intro @hsx (And.intro @hsX (And.intro @hsO hx0))
 refine Ac ?_
 refine Ad ?_
 have hc := Ag (E := (CB.at_ 115)) (f := 38) (sp := Spec.gen IX) rfl
 have hs := @IX.eq_1
 refine BM (hq := by (first | ((repeat' apply And.intro) <;> first | rfl | omega | exact GP | exact hokA) | exact AQ)) ?_
 refine Ad ?_
 iterate 2 refine Dt ?_
 iterate 2 refine Ad ?_
 have hx := hx0
 refine Ab (h46 _ (Aa fun N57 h57 => Aa fun N58 h58 => ?_)); clear h46
 have ng2 : ((0 : Int) ≤ (i : Int)) = True := eq_true (by omega)
 have hx := And.intro @ng2 hx0
 refine Ac ?_
 refine Ad ?_
 refine Ao ?_
 refine Ad ?_
 refine At Bb ?_
 refine At Bb ?_
 refine At Bb ?_
 refine At Bb ?_
 refine At Bb ?_
 refine At Bb ?_
 refine At Bb ?_
 refine At Bb ?_
 refine AH ?_
 have hx := hx0
 refine Ab (h58 _ (Ak (fun hb59 => ?_) (fun hb59 => ?_))); clear h58
 refine Aa fun N60 h60 => Ac ?_
 refine Ad ?_
 have hc := Ag (E := (CB.at_ 115)) (f := 21) (sp := Spec.pure B3) rfl
 have hs := @B3.eq_1
 refine Ba ?_
 refine A4 ?_
 refine Ab (h60 _ (Am ?_)); clear h60
 try simp only [Ae]
 have hrc : Cg q i = 5 := by
  unfold Cg Is; rw [hxd]; dsimp only; rw [if_neg g1, if_neg c2, if_pos hsb, ite_self]
 have hr := E5 h1 h40 hiq i2 hrc (by decide)
 rw [hr]
 refine Aw ?_
 exact Au
 exact CJ hb59
 obtain rfl : i = q.length := by have := hb12; omega
 have hba := Ue h1 i2
 obtain ⟨hsX, hsO⟩ := Q4 (Nat.le_refl q.length) hba
 have hal := Mm (Nat.le_refl q.length)
 have hokA : YD (Fe (Ef q) q.length) ((Fe (Ef q) q.length).length - 1) := by rw [hal]; exact okM (by omega) (Nat.le_refl _) (fun j hj => i2 j (by omega))
 have hsl : (Dl q q.length).length = q.length := E9 _ _
 obtain ⟨y, hye⟩ := BA (l := Dl q q.length) (i := q.length - 1) (by omega)
 have hyd : (Dl q q.length).getD (q.length - 1) 0 = y := B5 hye
 have hzy := RL hye
 have hpm : ((q.length : Int) - 1).toNat = q.length - 1 := by omega
 have hre := VI h1 h40 i2
 rw [hyd] at hre
 refine AJ ?_
 simp only [Ae, Nat.reduceEqDiff, reduceIte, eq_self]
 have hx := And.intro @hsX (And.intro @hsO hx0)
 refine h7 _ (Aa fun N61 h61 => Ac ?_); clear h7
 refine Ad ?_
 have hc := Ag (E := (CB.at_ 115)) (f := 38) (sp := Spec.gen IX) rfl
 have hs := @IX.eq_1
 refine BM (hq := by (first | ((repeat' apply And.intro) <;> first | rfl | omega | exact GP | exact hokA) | exact AQ)) ?_
 refine Ad ?_
 iterate 2 refine Dt ?_
 iterate 2 refine Ad ?_
 have hx := hx0
 refine Ab (h61 _ (Aa fun N62 h62 => ?_)); clear h61
 have hx := And.intro @hsl (And.intro @hpm (And.intro @hzy (And.intro @eI.eq_1 hx0)))
 refine Aa fun N63 h63 => Ac ?_
 iterate 2 refine Ad ?_
 refine AU ?_
 refine Ao ?_
 refine Ar ?_
 refine Aq ?_
 refine Ad ?_
 refine AU ?_
 refine Ao ?_
 have hx := hx0
 refine Ab (h63 _ (Ak (fun hb64 => ?_) (fun hb64 => ?_))); clear h63
 refine Aa fun N65 h65 => Ac ?_
 have hc := Ag (E := (CB.at_ 115)) (f := 21) (sp := Spec.pure B3) rfl
 have hs := @B3.eq_1
 refine Ba ?_
 refine A4 ?_
 refine Ab (h65 _ (Am ?_)); clear h65
 try simp only [Ae]
 rw [if_pos (by have := hb64; (try simp at this); omega)] at hre
 rw [hre]
 refine Aw ?_
 exact Au
 refine An ?_
 try simp only [Ae]
 refine h62 _ (Aa fun N66 h66 => Ac ?_); clear h62
 refine BD ?_
 refine A4 ?_
 refine Ab (h66 _ (Am ?_)); clear h66
 try simp only [Ae]
 rw [if_neg (by have := hb64; (try simp at this); omega)] at hre
 rw [hre]
 refine Aw ?_
 exact Au
 cases hg
def J4 : Bq Tryz.prog := CB.add 12 (Spec.pure OM) OL (by kernel_rfl)
