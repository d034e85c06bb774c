/- Walks, printed by wip/gen/walk.py. -/
import Derived.Test.YtmbjnkgpcbpclaaGreatT21
import Derived.Test.YtmbjnkgpcbpclaaGreatV5
set_option linter.all false
set_option maxRecDepth 100000
set_option maxHeartbeats 4000000
namespace Go.Proofs.YtmbjnkgpcbpclaaGreat
open Go Go.Vc Go.RowKit
theorem Kh : A1 Tryz.prog 23 (Spec.pure Dt) := by
 refine Az (Cx.at_ 113) Tryz.func23 rfl rfl rfl ?_
 intro args p r hg hp
 unfold Dt at hg
 split at hg
 rename_i xs ps
 simp only [Option.some.injEq, Prod.mk.injEq] at hg
 obtain ⟨rfl, rfl⟩ := hg
 obtain ⟨he, hl, he2, hl2, hsm⟩ := hp
 generalize dI xs = l at *
 generalize dP ps = P at *
 subst he he2
 have hT : (Cx).X = T := rfl
 have hx0 := And.intro @DB (And.intro @P3 (And.intro @AA (And.intro @Ci (And.intro @Ch (And.intro @Bool.not_true (And.intro @Bool.not_false @Tryz.results23))))))
 have hx := hx0
 refine ⟨by rfl, ?_⟩
 intro F W0 hnp hmk
 refine Aa fun N1 h1 => ?_
 refine Ad ?_
 try refine Ac ?_
 refine EX ?_
 refine Bw ?_
 refine Ab ?_
 refine h1 _ ?_; clear h1
 refine Aa fun N2 h2 => ?_
 refine Aa fun N3 h3 => ?_
 refine Ad ?_
 try refine Ac ?_
 refine At ?_
 refine Ap ?_
 refine AZ ?_
 refine Al ?_
 refine Ab ?_
 refine h3 _ ?_; clear h3
 refine Ai (fun hb4 => ?_) (fun hb4 => ?_)
 refine Aa fun N5 h5 => ?_
 refine Ad ?_
 try refine Ac ?_
 have hc := Ag (E := (Cx.at_ 113)) (f := 21) (sp := Spec.pure AH) rfl
 have hs := @AH.eq_1
 refine AS ?_
 refine A4 ?_
 refine Ab ?_
 refine h5 _ ?_; clear h5
 refine An ?_
 try simp only [Af]
 have htx : HA l = (2, -1) := by unfold HA; rw [if_pos (by have := hb4; omega)]
 have hr : Br l P = (2, -1) := by unfold Br; rw [if_pos (by rw [htx]; simp), htx]
 rw [hr]
 refine Ax ?_
 exact As
 refine Am ?_
 try simp only [Af]
 refine h2 _ ?_; clear h2
 refine Aa fun N6 h6 => ?_
 refine Aa fun N7 h7 => ?_
 refine Ad ?_
 try refine Ac ?_
 refine Ae ?_
 refine Ab ?_
 refine h7 _ ?_; clear h7
 refine Au ?_
 refine A0 (σ := Nat) (fun s => (fun i => i ≤ l.length ∧ ∀ j, j < i → tf l j = 0) s)
  (fun s => (fun i => [(1, .ptr 0 0 0), (2, .ptr 1 0 0), (3, .d (.int .i64 (i : Nat)))]) s)
  (fun s => (fun i => [some (.one 49 [.d (.sl (rows eI l)), .d (.sl (rows eP P))]), some (.one 29 [.d (.int .i64 0), .d (.int .i64 0)])]) s) (fun s => (fun i => l.length - i) s) hnp 0 ?_ [some 0, some 1] ?_ ?_
 dsimp only
 exact ⟨by omega, fun j hj => by omega⟩
 dsimp only
 refine ⟨by rfl, ?_, ?_⟩
 refine Aj ?_
 exact As
 refine Aj ?_
 exact As
 rintro i hinv N8 h8
 dsimp only at hinv ⊢
 obtain ⟨i1, i2⟩ := hinv
 refine Aa fun N9 h9 => ?_
 refine Aa fun N10 h10 => ?_
 refine Ad ?_
 try refine Ac ?_
 refine Ae ?_
 refine At ?_
 refine Ap ?_
 refine AZ ?_
 refine Al ?_
 refine Ab ?_
 refine h10 _ ?_; clear h10
 refine Ai (fun hb11 => ?_) (fun hb11 => ?_)
 obtain ⟨x, hxe⟩ := BG (l := l) (i := i) (by omega)
 have hxd : l.getD i 0 = x := B5 hxe
 refine Am ?_
 try simp only [Af]
 refine h9 _ ?_; clear h9
 refine Aa fun N12 h12 => ?_
 refine Au ?_
 refine Aa fun N13 h13 => ?_
 refine Aa fun N14 h14 => ?_
 have hx := And.intro @hxe (And.intro @eI.eq_1 hx0)
 refine Ad ?_
 try refine Ac ?_
 refine At ?_
 refine Ap ?_
 refine Ae ?_
 refine At ?_
 refine Ap ?_
 have hc := Ag (E := (Cx.at_ 113)) (f := 35) (sp := Spec.pure O0) rfl
 have hs := @O0.eq_1
 refine AS ?_
 refine Gl ?_
 refine Ab ?_
 have hx := hx0
 refine h14 _ ?_; clear h14
 refine Ai (fun hb15 => ?_) (fun hb15 => ?_)
 have hbad : x < 0 ∨ 20 ≤ x := by have := hb15; (try simp at this); omega
 refine Aa fun N16 h16 => ?_
 refine Ad ?_
 try refine Ac ?_
 refine Ae ?_
 refine Al ?_
 have hc := Ag (E := (Cx.at_ 113)) (f := 21) (sp := Spec.pure AH) rfl
 have hs := @AH.eq_1
 refine AS ?_
 refine A4 ?_
 refine Ab ?_
 refine h16 _ ?_; clear h16
 refine An ?_
 try simp only [Af]
 have hf : tf l i = 3 := by unfold tf; rw [hxd, if_pos hbad]
 have htx : HA l = (3, -2 - (i : Int)) := by unfold HA; rw [if_neg (by have := hb4; omega), Bh (i := i) (by rw [hf]; decide) i2 (by omega), hf]; rfl
 have hr : Br l P = (3, -2 - (i : Int)) := by unfold Br; rw [if_pos (by rw [htx]; simp), htx]
 rw [hr]
 refine Ax ?_
 exact As
 have hgood : ¬ (x < 0 ∨ 20 ≤ x) := by have := hb15; (try simp at this); omega
 refine Am ?_
 try simp only [Af]
 refine h13 _ ?_; clear h13
 refine Aa fun N17 h17 => ?_
 rcases Nat.eq_zero_or_pos i with hi0 | hi0
 have hye := hxe
 have hgt : decide ((0 : Int) < (i : Int)) = false := decide_eq_false (by omega)
 have hpm := hxe
 have hx := And.intro @hxe (And.intro @hye (And.intro @hgt (And.intro @hpm (And.intro @eI.eq_1 hx0))))
 refine Ad ?_
 try refine Ac ?_
 refine Ae ?_
 refine Al ?_
 refine Ae ?_
 refine AK ?_
 refine AJ ?_
 refine BI ?_
 refine B7 ?_
 refine AK ?_
 refine AJ ?_
 refine AK ?_
 refine AJ ?_
 refine BI ?_
 refine AK ?_
 refine AJ ?_
 refine B7 ?_
 refine A7 ?_
 refine Ab ?_
 have hx := hx0
 refine h17 _ ?_; clear h17
 refine Ai (fun hb18 => ?_) (fun hb18 => ?_)
 ·first | omega | exact absurd trivial hb18 | contradiction | (simp_all; done)
 refine Am ?_
 try simp only [Af]
 refine h12 _ ?_; clear h12
 refine Ad ?_
 try refine Ac ?_
 refine Ae ?_
 refine Al ?_
 refine Ae ?_
 refine Ab ?_
 refine h8 _ ⟨i + 1, ?_, ?_, [some 0, some 1], ?_⟩
 dsimp only
 exact ⟨by omega, De i2 (by unfold tf; rw [hxd, if_neg hgood]; first | rfl | (rw [if_neg (by omega)]; done) | (rw [hyd, if_neg (by have := hb18; (try simp at this); omega)]; done))⟩
 dsimp only
 omega
 dsimp only
 refine ⟨by rfl, ?_, ?_⟩
 refine Aj ?_
 exact As
 refine Aj ?_
 exact As
 obtain ⟨y, hye⟩ := BG (l := l) (i := i - 1) (by omega)
 have hpm : ((i : Int) - 1).toNat = i - 1 := by omega
 have hgt : decide ((0 : Int) < (i : Int)) = true := decide_eq_true (by omega)
 have hyd : l.getD (i - 1) 0 = y := B5 hye
 have hx := And.intro @hxe (And.intro @hye (And.intro @hgt (And.intro @hpm (And.intro @eI.eq_1 hx0))))
 refine Ad ?_
 try refine Ac ?_
 refine Ae ?_
 refine Al ?_
 refine Ae ?_
 refine AK ?_
 refine AJ ?_
 refine BI ?_
 refine B7 ?_
 refine AK ?_
 refine AJ ?_
 refine AK ?_
 refine AJ ?_
 refine BI ?_
 refine AK ?_
 refine AJ ?_
 refine B7 ?_
 refine A7 ?_
 refine Ab ?_
 have hx := hx0
 refine h17 _ ?_; clear h17
 refine Ai (fun hb19 => ?_) (fun hb19 => ?_)
 refine Aa fun N20 h20 => ?_
 refine Ad ?_
 try refine Ac ?_
 refine Ae ?_
 refine Al ?_
 have hc := Ag (E := (Cx.at_ 113)) (f := 21) (sp := Spec.pure AH) rfl
 have hs := @AH.eq_1
 refine AS ?_
 refine A4 ?_
 refine Ab ?_
 refine h20 _ ?_; clear h20
 refine An ?_
 try simp only [Af]
 have hf : tf l i = 5 := by unfold tf; rw [hxd, hyd, if_neg hgood, if_pos ⟨by omega, by have := hb19; (try simp at this); omega⟩]
 have htx : HA l = (5, -2 - (i : Int)) := by unfold HA; rw [if_neg (by have := hb4; omega), Bh (i := i) (by rw [hf]; decide) i2 (by omega), hf]; rfl
 have hr : Br l P = (5, -2 - (i : Int)) := by unfold Br; rw [if_pos (by rw [htx]; simp), htx]
 rw [hr]
 refine Ax ?_
 exact As
 refine Am ?_
 try simp only [Af]
 refine h12 _ ?_; clear h12
 refine Ad ?_
 try refine Ac ?_
 refine Ae ?_
 refine Al ?_
 refine Ae ?_
 refine Ab ?_
 refine h8 _ ⟨i + 1, ?_, ?_, [some 0, some 1], ?_⟩
 dsimp only
 exact ⟨by omega, De i2 (by unfold tf; rw [hxd, if_neg hgood]; first | rfl | (rw [if_neg (by omega)]; done) | (rw [hyd, if_neg (by have := hb19; (try simp at this); omega)]; done))⟩
 dsimp only
 omega
 dsimp only
 refine ⟨by rfl, ?_, ?_⟩
 refine Aj ?_
 exact As
 refine Aj ?_
 exact As
 have htx : HA l = (0, 0) := by unfold HA; rw [if_neg (by have := hb4; omega), Cc (fun j hj => i2 j (by omega))]
 clear i2
 refine AF ?_
 simp only [Af, Nat.reduceEqDiff, reduceIte, eq_self]
 refine h6 _ ?_; clear h6
 refine Aa fun N21 h21 => ?_
 refine Aa fun N22 h22 => ?_
 refine Ad ?_
 try refine Ac ?_
 refine Ae ?_
 refine Ab ?_
 refine h22 _ ?_; clear h22
 refine Au ?_
 refine A0 (σ := Nat) (fun s => (fun i => i ≤ P.length ∧ ∀ j, j < i → EO l P j = 0) s)
  (fun s => (fun i => [(1, .ptr 0 0 0), (2, .ptr 1 0 0), (4, .d (.int .i64 (i : Nat)))]) s)
  (fun s => (fun i => [some (.one 49 [.d (.sl (rows eI l)), .d (.sl (rows eP P))]), some (.one 29 [.d (.int .i64 0), .d (.int .i64 0)])]) s) (fun s => (fun i => P.length - i) s) hnp 0 ?_ [some 0, some 1] ?_ ?_
 dsimp only
 exact ⟨by omega, fun j hj => by omega⟩
 dsimp only
 refine ⟨by rfl, ?_, ?_⟩
 refine Aj ?_
 exact As
 refine Aj ?_
 exact As
 rintro i hinv N23 h23
 dsimp only at hinv ⊢
 obtain ⟨i1, i2⟩ := hinv
 refine Aa fun N24 h24 => ?_
 refine Aa fun N25 h25 => ?_
 refine Ad ?_
 try refine Ac ?_
 refine Ae ?_
 refine At ?_
 refine Ap ?_
 refine AZ ?_
 refine Al ?_
 refine Ab ?_
 refine h25 _ ?_; clear h25
 refine Ai (fun hb26 => ?_) (fun hb26 => ?_)
 obtain ⟨p, hpe⟩ := BG (l := P) (i := i) (by omega)
 obtain ⟨g, t⟩ := p
 have hxe : P[i]? = some (g, t) := hpe
 have hxd : P.getD i ([], []) = (g, t) := B5 hxe
 have hsb := hsm _ (AE hxe)
 have hgl : g.length ≤ 9223372036854775807 := hsb.1
 have htl : t.length ≤ 9223372036854775807 := hsb.2
 clear hsb
 refine Am ?_
 try simp only [Af]
 refine h24 _ ?_; clear h24
 refine Aa fun N27 h27 => ?_
 refine Au ?_
 refine Aa fun N28 h28 => ?_
 have hx := And.intro @hxe hx0
 refine Ad ?_
 try refine Ac ?_
 refine At ?_
 refine Ap ?_
 refine Ae ?_
 refine At ?_
 refine Ap ?_
 refine Bw ?_
 refine A4 ?_
 refine Ab ?_
 have hx := hx0
 refine h28 _ ?_; clear h28
 refine Aa fun N29 h29 => ?_
 refine Aa fun N30 h30 => ?_
 refine Ad ?_
 try refine Ac ?_
 refine At ?_
 refine Ap ?_
 refine AZ ?_
 refine Al ?_
 refine Ab ?_
 refine h30 _ ?_; clear h30
 refine Ai (fun hb31 => ?_) (fun hb31 => ?_)
 refine Aa fun N32 h32 => ?_
 refine Ad ?_
 try refine Ac ?_
 refine Ae ?_
 have hc := Ag (E := (Cx.at_ 113)) (f := 21) (sp := Spec.pure AH) rfl
 have hs := @AH.eq_1
 refine AS ?_
 refine A4 ?_
 refine Ab ?_
 refine h32 _ ?_; clear h32
 refine An ?_
 try simp only [Af]
 have hf : EO l P i = 9 := by unfold EO; rw [hxd, if_pos (by show g.length ≠ 3; have := hb31; omega)]
 have hr : Br l P = (9, (i : Int)) := by unfold Br; rw [if_neg (by rw [htx]; simp), Bh (i := i) (by rw [hf]; decide) i2 (by omega), hf]
 rw [hr]
 refine Ax ?_
 exact As
 refine Am ?_
 try simp only [Af]
 refine h29 _ ?_; clear h29
 refine Aa fun N33 h33 => ?_
 refine Aa fun N34 h34 => ?_
 rcases XO P i g t with hc5 | hc5 | hc5 | hc5 | hc5
 obtain ⟨hi0, hlt⟩ := hc5
 obtain ⟨q, hqe⟩ := BG (l := P) (i := i - 1) (by omega)
 obtain ⟨gy, ty⟩ := q
 have hye : P[i - 1]? = some (gy, ty) := hqe
 have hyd : P.getD (i - 1) ([], []) = (gy, ty) := B5 hye
 have hpm : ((i : Int) - 1).toNat = i - 1 := by omega
 have hgt : decide ((0 : Int) < (i : Int)) = true := decide_eq_true (by omega)
 rw [hyd] at hlt
 have hle : Op.bytesLess gy g = false := hlt
 have hln := hxe
 have hx := And.intro @hye (And.intro @hgt (And.intro @hpm (And.intro @hle (And.intro @hln hx0))))
 refine Ad ?_
 try refine Ac ?_
 refine Ae ?_
 refine Al ?_
 refine Ae ?_
 refine AK ?_
 refine AJ ?_
 refine BI ?_
 refine B7 ?_
 iterate 2 refine AK ?_
 refine AJ ?_
 refine AK ?_
 refine AJ ?_
 refine B7 ?_
 refine A7 ?_
 refine Ae ?_
 refine AK ?_
 refine AJ ?_
 refine I3 ?_
 refine B7 ?_
 refine A7 ?_
 refine Ae ?_
 refine AK ?_
 refine AJ ?_
 have hc := Ag (E := (Cx.at_ 113)) (f := 51) (sp := Spec.pure CM) rfl
 have hs := @CM.eq_1
 refine ER ?_
 refine HP ?_
 refine A7 ?_
 refine Ab ?_
 have hx := hx0
 refine h34 _ ?_; clear h34
 refine Ai (fun hb35 => ?_) (fun hb35 => ?_)
 refine Aa fun N36 h36 => ?_
 refine Ad ?_
 try refine Ac ?_
 refine Ae ?_
 have hc := Ag (E := (Cx.at_ 113)) (f := 21) (sp := Spec.pure AH) rfl
 have hs := @AH.eq_1
 refine AS ?_
 refine A4 ?_
 refine Ab ?_
 refine h36 _ ?_; clear h36
 refine An ?_
 try simp only [Af]
 have hg3 : g.length = 3 := by have := hb31; omega
 have hf : EO l P i = 5 := by unfold EO; rw [hxd, if_neg (by show ¬ g.length ≠ 3; omega), if_pos (by first | exact Or.inl ⟨hi0, by rw [hyd]; exact hlt⟩ | exact Or.inr (Or.inl rfl) | exact Or.inr (Or.inr (by have := hb35; simpa using this)))]
 have hr : Br l P = (5, (i : Int)) := by unfold Br; rw [if_neg (by rw [htx]; simp), Bh (i := i) (by rw [hf]; decide) i2 (by omega), hf]
 rw [hr]
 refine Ax ?_
 exact As
 ·first | omega | exact absurd trivial hb35 | contradiction | (simp_all; done)
 obtain ⟨hi0, hte⟩ := hc5
 have hgt : decide ((0 : Int) < (i : Int)) = false := decide_eq_false (by omega)
 have hye := hxe
 have hpm := hxe
 have hle := hxe
 subst hte
 have hln : decide ((([] : List Int).length : Int) < 1) = true := rfl
 have hln2 := hxe
 have hx := And.intro @hye (And.intro @hgt (And.intro @hpm (And.intro @hle (And.intro @hln hx0))))
 refine Ad ?_
 try refine Ac ?_
 refine Ae ?_
 refine Al ?_
 refine Ae ?_
 refine AK ?_
 refine AJ ?_
 refine BI ?_
 refine B7 ?_
 iterate 2 refine AK ?_
 refine AJ ?_
 refine AK ?_
 refine AJ ?_
 refine B7 ?_
 refine A7 ?_
 refine Ae ?_
 refine AK ?_
 refine AJ ?_
 refine I3 ?_
 refine B7 ?_
 refine A7 ?_
 refine Ae ?_
 refine AK ?_
 refine AJ ?_
 have hc := Ag (E := (Cx.at_ 113)) (f := 51) (sp := Spec.pure CM) rfl
 have hs := @CM.eq_1
 refine ER ?_
 refine HP ?_
 refine A7 ?_
 refine Ab ?_
 have hx := hx0
 refine h34 _ ?_; clear h34
 refine Ai (fun hb37 => ?_) (fun hb37 => ?_)
 refine Aa fun N38 h38 => ?_
 refine Ad ?_
 try refine Ac ?_
 refine Ae ?_
 have hc := Ag (E := (Cx.at_ 113)) (f := 21) (sp := Spec.pure AH) rfl
 have hs := @AH.eq_1
 refine AS ?_
 refine A4 ?_
 refine Ab ?_
 refine h38 _ ?_; clear h38
 refine An ?_
 try simp only [Af]
 have hg3 : g.length = 3 := by have := hb31; omega
 have hf : EO l P i = 5 := by unfold EO; rw [hxd, if_neg (by show ¬ g.length ≠ 3; omega), if_pos (by first | exact Or.inl ⟨hi0, by rw [hyd]; exact hlt⟩ | exact Or.inr (Or.inl rfl) | exact Or.inr (Or.inr (by have := hb37; simpa using this)))]
 have hr : Br l P = (5, (i : Int)) := by unfold Br; rw [if_neg (by rw [htx]; simp), Bh (i := i) (by rw [hf]; decide) i2 (by omega), hf]
 rw [hr]
 refine Ax ?_
 exact As
 ·first | omega | exact absurd trivial hb37 | contradiction | (simp_all; done)
 obtain ⟨hi0, hte⟩ := hc5
 have hgt : decide ((0 : Int) < (i : Int)) = false := decide_eq_false (by omega)
 have hye := hxe
 have hpm := hxe
 have hle := hxe
 have hln : decide ((t.length : Int) < 1) = false := decide_eq_false (fun h => hte (List.eq_nil_of_length_eq_zero (by omega)))
 have hln2 := hxe
 have hx := And.intro @hye (And.intro @hgt (And.intro @hpm (And.intro @hle (And.intro @hln hx0))))
 refine Ad ?_
 try refine Ac ?_
 refine Ae ?_
 refine Al ?_
 refine Ae ?_
 refine AK ?_
 refine AJ ?_
 refine BI ?_
 refine B7 ?_
 iterate 2 refine AK ?_
 refine AJ ?_
 refine AK ?_
 refine AJ ?_
 refine B7 ?_
 refine A7 ?_
 refine Ae ?_
 refine AK ?_
 refine AJ ?_
 refine I3 ?_
 refine B7 ?_
 refine A7 ?_
 refine Ae ?_
 refine AK ?_
 refine AJ ?_
 have hc := Ag (E := (Cx.at_ 113)) (f := 51) (sp := Spec.pure CM) rfl
 have hs := @CM.eq_1
 refine ER ?_
 refine HP ?_
 refine A7 ?_
 refine Ab ?_
 have hx := hx0
 refine h34 _ ?_; clear h34
 refine Ai (fun hb39 => ?_) (fun hb39 => ?_)
 refine Aa fun N40 h40 => ?_
 refine Ad ?_
 try refine Ac ?_
 refine Ae ?_
 have hc := Ag (E := (Cx.at_ 113)) (f := 21) (sp := Spec.pure AH) rfl
 have hs := @AH.eq_1
 refine AS ?_
 refine A4 ?_
 refine Ab ?_
 refine h40 _ ?_; clear h40
 refine An ?_
 try simp only [Af]
 have hg3 : g.length = 3 := by have := hb31; omega
 have hf : EO l P i = 5 := by unfold EO; rw [hxd, if_neg (by show ¬ g.length ≠ 3; omega), if_pos (by first | exact Or.inl ⟨hi0, by rw [hyd]; exact hlt⟩ | exact Or.inr (Or.inl rfl) | exact Or.inr (Or.inr (by have := hb39; simpa using this)))]
 have hr : Br l P = (5, (i : Int)) := by unfold Br; rw [if_neg (by rw [htx]; simp), Bh (i := i) (by rw [hf]; decide) i2 (by omega), hf]
 rw [hr]
 refine Ax ?_
 exact As
 refine Am ?_
 try simp only [Af]
 refine h33 _ ?_; clear h33
 refine Aa fun N41 h41 => ?_
 have hx := And.intro @AA hx0
 refine Ad ?_
 try refine Ac ?_
 refine Ae ?_
 refine Ab ?_
 have hx := hx0
 refine h41 _ ?_; clear h41
 refine Au ?_
 refine A0 (σ := Nat) (fun s => (fun k => k ≤ t.length ∧ ∀ y ∈ t.take k, FF l y = false) s)
  (fun s => (fun k => [(1, .ptr 0 0 0), (2, .ptr 1 0 0), (4, .d (.int .i64 (i : Nat))), (5, .ptr 2 0 0), (6, .d (.int .i64 (k : Nat)))]) s)
  (fun s => (fun k => [some (.one 49 [.d (.sl (rows eI l)), .d (.sl (rows eP P))]), some (.one 29 [.d (.int .i64 0), .d (.int .i64 0)]), some (.one 85 [.d (.str g), .d (.sl (rows eI t))])]) s) (fun s => (fun k => t.length - k) s) hnp 0 ?_ [some 0, some 1, some 2] ?_ ?_
 dsimp only
 simp
 dsimp only
 refine ⟨by rfl, ?_, ?_⟩
 refine Aj ?_
 exact As
 refine Aj ?_
 exact As
 rintro k hinv N42 h42
 dsimp only at hinv ⊢
 obtain ⟨k1, k2⟩ := hinv
 refine Aa fun N43 h43 => ?_
 refine Aa fun N44 h44 => ?_
 refine Ad ?_
 try refine Ac ?_
 refine Ae ?_
 refine At ?_
 refine Ap ?_
 refine AZ ?_
 refine Al ?_
 refine Ab ?_
 refine h44 _ ?_; clear h44
 refine Ai (fun hb45 => ?_) (fun hb45 => ?_)
 obtain ⟨y, hye⟩ := BG (l := t) (i := k) (by omega)
 refine Am ?_
 try simp only [Af]
 refine h43 _ ?_; clear h43
 refine Aa fun N46 h46 => ?_
 refine Au ?_
 refine Aa fun N47 h47 => ?_
 have hx := And.intro @hye (And.intro @eI.eq_1 hx0)
 refine Ad ?_
 try refine Ac ?_
 refine At ?_
 refine Ap ?_
 refine At ?_
 refine Ap ?_
 refine Ae ?_
 refine At ?_
 refine Ap ?_
 have hc := Ag (E := (Cx.at_ 113)) (f := 26) (sp := Spec.pure FX) rfl
 have hs := @FX.eq_1
 refine AS ?_
 refine Gl ?_
 refine Ab ?_
 have hx := hx0
 refine h47 _ ?_; clear h47
 refine Ai (fun hb48 => ?_) (fun hb48 => ?_)
 refine Aa fun N49 h49 => ?_
 refine Ad ?_
 try refine Ac ?_
 refine Ae ?_
 have hc := Ag (E := (Cx.at_ 113)) (f := 21) (sp := Spec.pure AH) rfl
 have hs := @AH.eq_1
 refine AS ?_
 refine A4 ?_
 refine Ab ?_
 refine h49 _ ?_; clear h49
 refine An ?_
 try simp only [Af]
 have hg3 : g.length = 3 := by have := hb31; omega
 have h5 : ¬ ((0 < i ∧ Dj (P.getD (i - 1) ([], [])).1 g = false) ∨ t = [] ∨ Dv t = false) := by
  have hinc : Dv t = true := by have := hb39; simpa using this
  rintro (⟨h1, h2⟩ | h | h)
  ·first | omega | (rw [hyd] at h2; rw [hlt] at h2; cases h2)
  ·exact hte h
  ·rw [hinc] at h; cases h
 have hsub : t.any (FF l) = true := List.any_eq_true.2 ⟨y, AE hye, by unfold FF; have := hb48; simpa using this⟩
 have hf : EO l P i = 6 := by unfold EO; rw [hxd, if_neg (by show ¬ g.length ≠ 3; omega), if_neg h5, if_pos hsub]
 have hr : Br l P = (6, (i : Int)) := by unfold Br; rw [if_neg (by rw [htx]; simp), Bh (i := i) (by rw [hf]; decide) i2 (by omega), hf]
 rw [hr]
 refine Ax ?_
 exact As
 refine Am ?_
 try simp only [Af]
 refine h46 _ ?_; clear h46
 refine Ad ?_
 try refine Ac ?_
 refine Ae ?_
 refine Al (hq := by (first | (first | omega | (unfold CL; omega)) | exact A3)) ?_
 refine Ae ?_
 refine Ab ?_
 refine h42 _ ⟨k + 1, ?_, ?_, [some 0, some 1, some 2], ?_⟩
 dsimp only
 exact ⟨by omega, D7 k2 hye (by unfold FF; have := hb48; simpa using this)⟩
 dsimp only
 omega
 dsimp only
 refine ⟨by rfl, ?_, ?_⟩
 refine Aj ?_
 exact As
 refine Aj ?_
 exact As
 obtain rfl : k = t.length := by omega
 refine AF ?_
 simp only [Af, Nat.reduceEqDiff, reduceIte, eq_self]
 refine h27 _ ?_; clear h27
 refine Ad ?_
 try refine Ac ?_
 refine Ae ?_
 refine Al ?_
 refine Ae ?_
 refine Ab ?_
 have hg3 : g.length = 3 := by have := hb31; omega
 have h5 : ¬ ((0 < i ∧ Dj (P.getD (i - 1) ([], [])).1 g = false) ∨ t = [] ∨ Dv t = false) := by
  have hinc : Dv t = true := by have := hb39; simpa using this
  rintro (⟨h1, h2⟩ | h | h)
  ·first | omega | (rw [hyd] at h2; rw [hlt] at h2; cases h2)
  ·exact hte h
  ·rw [hinc] at h; cases h
 have hsub : ¬ t.any (FF l) = true := fun h => by
  obtain ⟨y, hy, hb⟩ := List.any_eq_true.1 h
  rw [k2 y (by rw [List.take_length]; exact hy)] at hb; cases hb
 have hf : EO l P i = 0 := by unfold EO; rw [hxd, if_neg (by show ¬ g.length ≠ 3; omega), if_neg h5, if_neg hsub]
 refine h23 _ ⟨i + 1, ?_, ?_, [some 0, some 1], ?_⟩
 dsimp only
 exact ⟨by omega, De i2 hf⟩
 dsimp only
 omega
 dsimp only
 refine ⟨by rfl, ?_, ?_⟩
 refine Aj ?_
 exact As
 refine Aj ?_
 exact As
 obtain ⟨hi0, hlt, hte⟩ := hc5
 obtain ⟨q, hqe⟩ := BG (l := P) (i := i - 1) (by omega)
 obtain ⟨gy, ty⟩ := q
 have hye : P[i - 1]? = some (gy, ty) := hqe
 have hyd : P.getD (i - 1) ([], []) = (gy, ty) := B5 hye
 have hpm : ((i : Int) - 1).toNat = i - 1 := by omega
 have hgt : decide ((0 : Int) < (i : Int)) = true := decide_eq_true (by omega)
 rw [hyd] at hlt
 have hle : Op.bytesLess gy g = true := hlt
 subst hte
 have hln : decide ((([] : List Int).length : Int) < 1) = true := rfl
 have hln2 := hxe
 have hx := And.intro @hye (And.intro @hgt (And.intro @hpm (And.intro @hle (And.intro @hln hx0))))
 refine Ad ?_
 try refine Ac ?_
 refine Ae ?_
 refine Al ?_
 refine Ae ?_
 refine AK ?_
 refine AJ ?_
 refine BI ?_
 refine B7 ?_
 iterate 2 refine AK ?_
 refine AJ ?_
 refine AK ?_
 refine AJ ?_
 refine B7 ?_
 refine A7 ?_
 refine Ae ?_
 refine AK ?_
 refine AJ ?_
 refine I3 ?_
 refine B7 ?_
 refine A7 ?_
 refine Ae ?_
 refine AK ?_
 refine AJ ?_
 have hc := Ag (E := (Cx.at_ 113)) (f := 51) (sp := Spec.pure CM) rfl
 have hs := @CM.eq_1
 refine ER ?_
 refine HP ?_
 refine A7 ?_
 refine Ab ?_
 have hx := hx0
 refine h34 _ ?_; clear h34
 refine Ai (fun hb50 => ?_) (fun hb50 => ?_)
 refine Aa fun N51 h51 => ?_
 refine Ad ?_
 try refine Ac ?_
 refine Ae ?_
 have hc := Ag (E := (Cx.at_ 113)) (f := 21) (sp := Spec.pure AH) rfl
 have hs := @AH.eq_1
 refine AS ?_
 refine A4 ?_
 refine Ab ?_
 refine h51 _ ?_; clear h51
 refine An ?_
 try simp only [Af]
 have hg3 : g.length = 3 := by have := hb31; omega
 have hf : EO l P i = 5 := by unfold EO; rw [hxd, if_neg (by show ¬ g.length ≠ 3; omega), if_pos (by first | exact Or.inl ⟨hi0, by rw [hyd]; exact hlt⟩ | exact Or.inr (Or.inl rfl) | exact Or.inr (Or.inr (by have := hb50; simpa using this)))]
 have hr : Br l P = (5, (i : Int)) := by unfold Br; rw [if_neg (by rw [htx]; simp), Bh (i := i) (by rw [hf]; decide) i2 (by omega), hf]
 rw [hr]
 refine Ax ?_
 exact As
 ·first | omega | exact absurd trivial hb50 | contradiction | (simp_all; done)
 obtain ⟨hi0, hlt, hte⟩ := hc5
 obtain ⟨q, hqe⟩ := BG (l := P) (i := i - 1) (by omega)
 obtain ⟨gy, ty⟩ := q
 have hye : P[i - 1]? = some (gy, ty) := hqe
 have hyd : P.getD (i - 1) ([], []) = (gy, ty) := B5 hye
 have hpm : ((i : Int) - 1).toNat = i - 1 := by omega
 have hgt : decide ((0 : Int) < (i : Int)) = true := decide_eq_true (by omega)
 rw [hyd] at hlt
 have hle : Op.bytesLess gy g = true := hlt
 have hln : decide ((t.length : Int) < 1) = false := decide_eq_false (fun h => hte (List.eq_nil_of_length_eq_zero (by omega)))
 have hln2 := hxe
 have hx := And.intro @hye (And.intro @hgt (And.intro @hpm (And.intro @hle (And.intro @hln hx0))))
 refine Ad ?_
 try refine Ac ?_
 refine Ae ?_
 refine Al ?_
 refine Ae ?_
 refine AK ?_
 refine AJ ?_
 refine BI ?_
 refine B7 ?_
 iterate 2 refine AK ?_
 refine AJ ?_
 refine AK ?_
 refine AJ ?_
 refine B7 ?_
 refine A7 ?_
 refine Ae ?_
 refine AK ?_
 refine AJ ?_
 refine I3 ?_
 refine B7 ?_
 refine A7 ?_
 refine Ae ?_
 refine AK ?_
 refine AJ ?_
 have hc := Ag (E := (Cx.at_ 113)) (f := 51) (sp := Spec.pure CM) rfl
 have hs := @CM.eq_1
 refine ER ?_
 refine HP ?_
 refine A7 ?_
 refine Ab ?_
 have hx := hx0
 refine h34 _ ?_; clear h34
 refine Ai (fun hb52 => ?_) (fun hb52 => ?_)
 refine Aa fun N53 h53 => ?_
 refine Ad ?_
 try refine Ac ?_
 refine Ae ?_
 have hc := Ag (E := (Cx.at_ 113)) (f := 21) (sp := Spec.pure AH) rfl
 have hs := @AH.eq_1
 refine AS ?_
 refine A4 ?_
 refine Ab ?_
 refine h53 _ ?_; clear h53
 refine An ?_
 try simp only [Af]
 have hg3 : g.length = 3 := by have := hb31; omega
 have hf : EO l P i = 5 := by unfold EO; rw [hxd, if_neg (by show ¬ g.length ≠ 3; omega), if_pos (by first | exact Or.inl ⟨hi0, by rw [hyd]; exact hlt⟩ | exact Or.inr (Or.inl rfl) | exact Or.inr (Or.inr (by have := hb52; simpa using this)))]
 have hr : Br l P = (5, (i : Int)) := by unfold Br; rw [if_neg (by rw [htx]; simp), Bh (i := i) (by rw [hf]; decide) i2 (by omega), hf]
 rw [hr]
 refine Ax ?_
 exact As
 refine Am ?_
 try simp only [Af]
 refine h33 _ ?_; clear h33
 refine Aa fun N54 h54 => ?_
 have hx := And.intro @AA hx0
 refine Ad ?_
 try refine Ac ?_
 refine Ae ?_
 refine Ab ?_
 have hx := hx0
 refine h54 _ ?_; clear h54
 refine Au ?_
 refine A0 (σ := Nat) (fun s => (fun k => k ≤ t.length ∧ ∀ y ∈ t.take k, FF l y = false) s)
  (fun s => (fun k => [(1, .ptr 0 0 0), (2, .ptr 1 0 0), (4, .d (.int .i64 (i : Nat))), (5, .ptr 2 0 0), (6, .d (.int .i64 (k : Nat)))]) s)
  (fun s => (fun k => [some (.one 49 [.d (.sl (rows eI l)), .d (.sl (rows eP P))]), some (.one 29 [.d (.int .i64 0), .d (.int .i64 0)]), some (.one 85 [.d (.str g), .d (.sl (rows eI t))])]) s) (fun s => (fun k => t.length - k) s) hnp 0 ?_ [some 0, some 1, some 2] ?_ ?_
 dsimp only
 simp
 dsimp only
 refine ⟨by rfl, ?_, ?_⟩
 refine Aj ?_
 exact As
 refine Aj ?_
 exact As
 rintro k hinv N55 h55
 dsimp only at hinv ⊢
 obtain ⟨k1, k2⟩ := hinv
 refine Aa fun N56 h56 => ?_
 refine Aa fun N57 h57 => ?_
 refine Ad ?_
 try refine Ac ?_
 refine Ae ?_
 refine At ?_
 refine Ap ?_
 refine AZ ?_
 refine Al ?_
 refine Ab ?_
 refine h57 _ ?_; clear h57
 refine Ai (fun hb58 => ?_) (fun hb58 => ?_)
 obtain ⟨y, hye⟩ := BG (l := t) (i := k) (by omega)
 refine Am ?_
 try simp only [Af]
 refine h56 _ ?_; clear h56
 refine Aa fun N59 h59 => ?_
 refine Au ?_
 refine Aa fun N60 h60 => ?_
 have hx := And.intro @hye (And.intro @eI.eq_1 hx0)
 refine Ad ?_
 try refine Ac ?_
 refine At ?_
 refine Ap ?_
 refine At ?_
 refine Ap ?_
 refine Ae ?_
 refine At ?_
 refine Ap ?_
 have hc := Ag (E := (Cx.at_ 113)) (f := 26) (sp := Spec.pure FX) rfl
 have hs := @FX.eq_1
 refine AS ?_
 refine Gl ?_
 refine Ab ?_
 have hx := hx0
 refine h60 _ ?_; clear h60
 refine Ai (fun hb61 => ?_) (fun hb61 => ?_)
 refine Aa fun N62 h62 => ?_
 refine Ad ?_
 try refine Ac ?_
 refine Ae ?_
 have hc := Ag (E := (Cx.at_ 113)) (f := 21) (sp := Spec.pure AH) rfl
 have hs := @AH.eq_1
 refine AS ?_
 refine A4 ?_
 refine Ab ?_
 refine h62 _ ?_; clear h62
 refine An ?_
 try simp only [Af]
 have hg3 : g.length = 3 := by have := hb31; omega
 have h5 : ¬ ((0 < i ∧ Dj (P.getD (i - 1) ([], [])).1 g = false) ∨ t = [] ∨ Dv t = false) := by
  have hinc : Dv t = true := by have := hb52; simpa using this
  rintro (⟨h1, h2⟩ | h | h)
  ·first | omega | (rw [hyd] at h2; rw [hlt] at h2; cases h2)
  ·exact hte h
  ·rw [hinc] at h; cases h
 have hsub : t.any (FF l) = true := List.any_eq_true.2 ⟨y, AE hye, by unfold FF; have := hb61; simpa using this⟩
 have hf : EO l P i = 6 := by unfold EO; rw [hxd, if_neg (by show ¬ g.length ≠ 3; omega), if_neg h5, if_pos hsub]
 have hr : Br l P = (6, (i : Int)) := by unfold Br; rw [if_neg (by rw [htx]; simp), Bh (i := i) (by rw [hf]; decide) i2 (by omega), hf]
 rw [hr]
 refine Ax ?_
 exact As
 refine Am ?_
 try simp only [Af]
 refine h59 _ ?_; clear h59
 refine Ad ?_
 try refine Ac ?_
 refine Ae ?_
 refine Al (hq := by (first | (first | omega | (unfold CL; omega)) | exact A3)) ?_
 refine Ae ?_
 refine Ab ?_
 refine h55 _ ⟨k + 1, ?_, ?_, [some 0, some 1, some 2], ?_⟩
 dsimp only
 exact ⟨by omega, D7 k2 hye (by unfold FF; have := hb61; simpa using this)⟩
 dsimp only
 omega
 dsimp only
 refine ⟨by rfl, ?_, ?_⟩
 refine Aj ?_
 exact As
 refine Aj ?_
 exact As
 obtain rfl : k = t.length := by omega
 refine AF ?_
 simp only [Af, Nat.reduceEqDiff, reduceIte, eq_self]
 refine h27 _ ?_; clear h27
 refine Ad ?_
 try refine Ac ?_
 refine Ae ?_
 refine Al ?_
 refine Ae ?_
 refine Ab ?_
 have hg3 : g.length = 3 := by have := hb31; omega
 have h5 : ¬ ((0 < i ∧ Dj (P.getD (i - 1) ([], [])).1 g = false) ∨ t = [] ∨ Dv t = false) := by
  have hinc : Dv t = true := by have := hb52; simpa using this
  rintro (⟨h1, h2⟩ | h | h)
  ·first | omega | (rw [hyd] at h2; rw [hlt] at h2; cases h2)
  ·exact hte h
  ·rw [hinc] at h; cases h
 have hsub : ¬ t.any (FF l) = true := fun h => by
  obtain ⟨y, hy, hb⟩ := List.any_eq_true.1 h
  rw [k2 y (by rw [List.take_length]; exact hy)] at hb; cases hb
 have hf : EO l P i = 0 := by unfold EO; rw [hxd, if_neg (by show ¬ g.length ≠ 3; omega), if_neg h5, if_neg hsub]
 refine h23 _ ⟨i + 1, ?_, ?_, [some 0, some 1], ?_⟩
 dsimp only
 exact ⟨by omega, De i2 hf⟩
 dsimp only
 omega
 dsimp only
 refine ⟨by rfl, ?_, ?_⟩
 refine Aj ?_
 exact As
 refine Aj ?_
 exact As
 refine AF ?_
 simp only [Af, Nat.reduceEqDiff, reduceIte, eq_self]
 refine h21 _ ?_; clear h21
 refine Aa fun N63 h63 => ?_
 refine Ad ?_
 try refine Ac ?_
 refine BL ?_
 refine A4 ?_
 refine Ab ?_
 refine h63 _ ?_; clear h63
 refine An ?_
 try simp only [Af]
 have hr : Br l P = (0, 0) := by unfold Br; rw [if_neg (by rw [htx]; simp), Cc (fun j hj => i2 j (by omega))]
 rw [hr]
 refine Ax ?_
 exact As
 cases hg

def Qk : Bn Tryz.prog := Cx.add 23 (Spec.pure Dt) Kh (by kernel_rfl)
end Go.Proofs.YtmbjnkgpcbpclaaGreat
