import Derived.Test.YtmbjnkgpcbpclaaGreatT16
set_option linter.all false
set_option maxRecDepth 100000
set_option maxHeartbeats 4000000
namespace Go.Proofs.YtmbjnkgpcbpclaaGreat
open Go Go.Vc Go.RowKit
theorem XN (P : List AR) : dG (rows eP P) = P.map vP := by rw [Ek, Mw]
theorem UQ (P : List AR) (g : Bs) : Cq (P.map vP) g = Cq P g := Xa (fun t => D.sl (rows eI t)) P g
theorem Rc (P : List AR) (g : Bs) : Ce (P.map vP) g = Ce P g := by unfold Ce; rw [List.map_map]; rfl
theorem E8 {P : List AR} (h : Db P) : Db (P.map vP) := by unfold Db at *; rw [List.pairwise_map]; exact h
theorem Xq (P : List AR) (g : Bs) (x : Int) : Ii (Ce P g) ((Cq P g : Nat) : Int) P x = !U2 P g x := rfl
theorem CR (ts : List Int) (P : List AR) (s : Bs) (k : Nat) : Hz (Ii (Ce P (gr s k)) ((Cq P (gr s k) : Nat) : Int) P) (DQ ts P s k) = DQ ts P s (k + 1) := by
  rw [P4]; unfold Hz; apply List.filter_congr; intro x _; rw [Xq, Bool.not_not]
theorem EQ {P : List AR} {g : Bs} (hs : Db P) (h : Ce P g = true) : Cq P g < P.length := by obtain ⟨t, ht⟩ := GS hs h; exact (List.getElem?_eq_some_iff.1 ht).1
def P5 : List AV → Option (Prop × AV)
  | [.agg [.d (.sl xs), .d (.sl ps)], .d (.str s)] => some (xs = rows eI (dI xs) ∧ (dI xs).length ≤ 9223372036854775807 ∧ ps = rows eP (dP ps) ∧ (dP ps).length ≤ 9223372036854775807 ∧ DN (dP ps) ∧ s.length ≤ 9223372036854775807,
      .tup [.d (.sl (rows eI (ED (dI xs) (dP ps) s))), .agg [.d (.int .i64 (Eh (dI xs) (dP ps) s).1), .d (.int .i64 (Eh (dI xs) (dP ps) s).2)]])
  | _ => none
theorem Im {p : Prop} (h : p := by (repeat' apply And.intro) <;> (first | (first | rfl | trivial | (rw [QY]; done)) | exact Au)) : p := h
theorem NH : A5 Tryz.prog 75 (Spec.pure P5) := by
 refine A1 (Dc.at_ 47) Tryz.func75 rfl rfl rfl ?_
 intro args p r hg hp
 unfold P5 at hg
 split at hg
 rename_i xs ps u
 simp only [Option.some.injEq, Prod.mk.injEq] at hg
 obtain ⟨rfl, rfl⟩ := hg
 obtain ⟨he, hl, he2, hl2, hsm, hsl⟩ := hp
 generalize dI xs = l at *
 generalize dP ps = P at *
 subst he he2
 have hT : (Dc).X = T := rfl
 have hx0 := And.intro @DW (And.intro @AE (And.intro @Ci (And.intro @Ch @Tryz.results75)))
 have hx := hx0
 refine ⟨by rfl, ?_⟩
 intro F W0 hnp hmk
 refine Aa fun N1 h1 => Ac ?_
 refine Az ?_
 refine Fz ?_
 refine Ad ?_
 refine Bj ?_
 refine Ab (h1 _ (Aa fun N2 h2 => ?_)); clear h1
 have hx := And.intro @BH hx0
 refine Aa fun N3 h3 => Ac ?_
 refine Aq ?_
 have hc := Ag (E := (Dc.at_ 47)) (f := 49) (sp := Spec.pure KJ) rfl
 have hs := @KJ.eq_1
 refine Ba ?_
 refine Bj ?_
 refine A4 ?_
 have hx := hx0
 refine Ab (h3 _ (Aa fun N4 h4 => ?_)); clear h3
 rcases RG l P with hvx | hvx
 have hz1 : (Dj l P).1 = 0 := by rw [hvx]
 have hz2 : (Dj l P).2 = 0 := by rw [hvx]
 have hv := QA hz1
 have hlen20 := hv.tlen
 have hpl := hv.plen
 refine Ac ?_
 refine Aq ?_
 refine BD ?_
 refine Ao ?_
 refine Ab (h4 _ (Ak (fun hb5 => ?_) (fun hb5 => ?_))); clear h4
 exact absurd (And.intro hz1 hz2) (by have := hb5; simpa using this)
 refine An ?_
 try simp only [Ae]
 refine h2 _ (Aa fun N6 h6 => ?_); clear h2
 refine Aa fun N7 h7 => Ac ?_
 refine Ad ?_
 refine AU ?_
 refine Ao ?_
 refine Ab (h7 _ (Ak (fun hb8 => ?_) (fun hb8 => ?_))); clear h7
 refine Aa fun N9 h9 => Ac ?_
 refine BD ?_
 refine Ad ?_
 refine A4 ?_
 refine Ab (h9 _ (Am ?_)); clear h9
 try simp only [Ae]
 have hr : Eh l P u = (10, -1) := by unfold Eh; rw [if_neg (by rw [hz1]; simp), if_pos (by have := hb8; omega)]
 have hr2 : ED l P u = [] := by unfold ED; rw [hr]; rfl
 rw [hr, hr2]
 refine Aw ?_
 exact Au
 refine An ?_
 try simp only [Ae]
 refine h6 _ (Aa fun N10 h10 => Ac ?_); clear h6
 refine Ar ?_
 refine Aq ?_
 have hc := Ag (E := (Dc.at_ 47)) (f := 76) (sp := Spec.fresh (FW 3)) rfl
 have hs := @FW.eq_1
 refine BM (hq := by (first | (exact ⟨of_eq_true (BO l), by omega⟩) | exact AQ)) ?_
 refine Ad ?_
 refine Ab (h10 _ (Aa fun N11 h11 => ?_)); clear h10
 refine Aa fun N12 h12 => Ac ?_
 refine Ad ?_
 refine AU ?_
 iterate 2 refine Ao ?_
 refine Ad ?_
 refine Ab (h12 _ (As ?_)); clear h12
 refine A3 (σ := Nat) (fun s => (fun i => i ≤ u.length - 2) s)
  (fun s => (fun i => [(1, .d (.str u)), (2, .ptr 0 0 0), (5, .ptr 1 0 0), (7, .sl 2 0 (DQ l P u i).length), (27, .d (.int .i64 ((u.length : Int) - 3 + 1))), (28, .d (.int .i64 (i : Nat)))]) s)
  (fun s => (fun i => [some (.one 49 [.d (.sl (rows eI l)), .d (.sl (rows eP P))]), some (.one 29 [.d (.int .i64 0), .d (.int .i64 0)]), some (.vec 3 1 (rows eI (DQ l P u i)))]) s) (fun s => (fun i => u.length - i) s) hnp 0 ?_ [some 0, some 1, some 3] ?_ ?_
 dsimp only
 omega
 dsimp only
 refine ⟨by rfl, ?_, ?_⟩
 refine Aj ?_
 exact Im
 refine Aj ?_
 exact Im
 rintro i hinv N13 h13
 dsimp only at hinv ⊢
 have i1 := hinv
 have hcl := I9 l P u i
 refine Aa fun N14 h14 => Ac ?_
 refine Az ?_
 refine Ao ?_
 refine Ab (h14 _ (Aa fun N15 h15 => Ak (fun hb16 => ?_) (fun hb16 => ?_))); clear h14
 have hi3 : i + 3 ≤ u.length := by have := hb16; omega
 have hgr : List.take (((i : Int) + 3).toNat - i) (u.drop i) = gr u i := by unfold gr; congr 1; omega
 refine An ?_
 try simp only [Ae]
 refine h15 _ (Aa fun N17 h17 => As ?_); clear h15
 refine Aa fun N18 h18 => Ac ?_
 iterate 2 refine Ad ?_
 refine Ab (h18 _ (Aa fun N19 h19 => ?_)); clear h18
 have hx := And.intro @hgr (And.intro @XN (And.intro @UQ (And.intro @Rc hx0)))
 refine EA [] (.seq [0, 1, 2, 3, 4, 5] (.alt 6 (.seq [7, 8, 9] (.alt 10 (.seq [11, 12, 13] .nil) (.alt 11 (.seq [10, 12, 13] .nil) .nil))) (.alt 10 (.alt 6 (.seq [7, 8, 9, 11, 12, 13] .nil) (.alt 11 (.seq [6, 7, 8, 9, 12, 13] .nil) .nil)) (.alt 11 (.alt 6 (.seq [7, 8, 9, 10, 12, 13] .nil) (.alt 10 (.seq [6, 7, 8, 9, 12, 13] .nil) .nil)) .nil)))) ER (by kernel_rfl) ?_
 refine A7 ?_
 simp only [Ah, Af]
 refine Aq ?_
 iterate 3 refine Ad ?_
 refine Ao ?_
 refine BZ ?_
 refine Ab ?_
 refine A0 ?_ ?_
 simp only [Ah, Af]
 have hc := Ag (E := (Dc.at_ 47)) (f := 78) (sp := Spec.pure Du) rfl
 have hs := @Du.eq_1
 refine Ba (hq := by (first | (exact ⟨Ek P, E8 hv.good.sort, by rw [List.length_map]; omega⟩) | exact AQ)) ?_
 refine Ab ?_
 refine A7 ?_
 simp only [Ah, Af]
 refine Ad ?_
 iterate 2 refine Dt ?_
 refine Ab ?_
 refine A0 ?_ ?_
 simp only [Ah, Af]
 refine Bj ?_
 refine Ab ?_
 refine A7 ?_
 simp only [Ah, Af]
 refine Bj ?_
 iterate 2 refine A4 ?_
 refine Ab ?_
 refine AK ?_
 have hx := And.intro @BH (And.intro @CR hx0)
 refine h19 _ (Ac ?_); clear h19
 refine Ad ?_
 refine Hh ?_
 have hc := Ag (E := (Dc.at_ 47)) (f := 57) (sp := Spec.gen Dh) rfl
 have hs := @Dh.eq_1
 refine BM (hq := by (first | (exact ⟨by omega, hsm, fun hb => ⟨by omega, by have := EQ hv.good.sort hb; omega⟩⟩) | exact AQ)) ?_
 refine Ad ?_
 have hx := hx0
 refine Ab (h17 _ (Ac ?_)); clear h17
 refine Ao ?_
 refine Ad ?_
 refine Ab ?_
 refine h13 _ ⟨i + 1, ?_, ?_, [some 0, some 1, some 2], ?_⟩
 dsimp only
 omega
 dsimp only
 omega
 dsimp only
 refine ⟨by rfl, ?_, ?_⟩
 refine Aj ?_
 exact Au
 refine Aj ?_
 exact Au
 refine A0 ?_ ?_
 simp only [Ah, Af]
 refine Bj ?_
 refine Ab ?_
 refine A7 ?_
 simp only [Ah, Af]
 refine Bj ?_
 iterate 2 refine A4 ?_
 refine Ab ?_
 refine AK ?_
 have hx := And.intro @BH (And.intro @CR hx0)
 refine h19 _ (Ac ?_); clear h19
 refine Ad ?_
 refine Hh ?_
 have hc := Ag (E := (Dc.at_ 47)) (f := 57) (sp := Spec.gen Dh) rfl
 have hs := @Dh.eq_1
 refine BM (hq := by (first | (exact ⟨by omega, hsm, fun hb => ⟨by omega, by have := EQ hv.good.sort hb; omega⟩⟩) | exact AQ)) ?_
 refine Ad ?_
 have hx := hx0
 refine Ab (h17 _ (Ac ?_)); clear h17
 refine Ao ?_
 refine Ad ?_
 refine Ab ?_
 refine h13 _ ⟨i + 1, ?_, ?_, [some 0, some 1, some 2], ?_⟩
 dsimp only
 omega
 dsimp only
 omega
 dsimp only
 refine ⟨by rfl, ?_, ?_⟩
 refine Aj ?_
 exact Au
 refine Aj ?_
 exact Au
 exact Bh
 refine A0 ?_ ?_
 simp only [Ah, Af]
 refine Bj ?_
 refine Ab ?_
 refine A0 ?_ ?_
 simp only [Ah, Af]
 have hc := Ag (E := (Dc.at_ 47)) (f := 78) (sp := Spec.pure Du) rfl
 have hs := @Du.eq_1
 refine Ba (hq := by (first | (exact ⟨Ek P, E8 hv.good.sort, by rw [List.length_map]; omega⟩) | exact AQ)) ?_
 refine Ab ?_
 refine A7 ?_
 simp only [Ah, Af]
 refine Ad ?_
 iterate 2 refine Dt ?_
 refine Bj ?_
 iterate 2 refine A4 ?_
 refine Ab ?_
 refine AK ?_
 have hx := And.intro @BH (And.intro @CR hx0)
 refine h19 _ (Ac ?_); clear h19
 refine Ad ?_
 refine Hh ?_
 have hc := Ag (E := (Dc.at_ 47)) (f := 57) (sp := Spec.gen Dh) rfl
 have hs := @Dh.eq_1
 refine BM (hq := by (first | (exact ⟨by omega, hsm, fun hb => ⟨by omega, by have := EQ hv.good.sort hb; omega⟩⟩) | exact AQ)) ?_
 refine Ad ?_
 have hx := hx0
 refine Ab (h17 _ (Ac ?_)); clear h17
 refine Ao ?_
 refine Ad ?_
 refine Ab ?_
 refine h13 _ ⟨i + 1, ?_, ?_, [some 0, some 1, some 2], ?_⟩
 dsimp only
 omega
 dsimp only
 omega
 dsimp only
 refine ⟨by rfl, ?_, ?_⟩
 refine Aj ?_
 exact Au
 refine Aj ?_
 exact Au
 refine A0 ?_ ?_
 simp only [Ah, Af]
 refine Bj ?_
 refine Ab ?_
 refine A7 ?_
 simp only [Ah, Af]
 have hc := Ag (E := (Dc.at_ 47)) (f := 78) (sp := Spec.pure Du) rfl
 have hs := @Du.eq_1
 refine Ba (hq := by (first | (exact ⟨Ek P, E8 hv.good.sort, by rw [List.length_map]; omega⟩) | exact AQ)) ?_
 refine Ad ?_
 iterate 2 refine Dt ?_
 iterate 2 refine A4 ?_
 refine Ab ?_
 refine AK ?_
 have hx := And.intro @BH (And.intro @CR hx0)
 refine h19 _ (Ac ?_); clear h19
 refine Ad ?_
 refine Hh ?_
 have hc := Ag (E := (Dc.at_ 47)) (f := 57) (sp := Spec.gen Dh) rfl
 have hs := @Dh.eq_1
 refine BM (hq := by (first | (exact ⟨by omega, hsm, fun hb => ⟨by omega, by have := EQ hv.good.sort hb; omega⟩⟩) | exact AQ)) ?_
 refine Ad ?_
 have hx := hx0
 refine Ab (h17 _ (Ac ?_)); clear h17
 refine Ao ?_
 refine Ad ?_
 refine Ab ?_
 refine h13 _ ⟨i + 1, ?_, ?_, [some 0, some 1, some 2], ?_⟩
 dsimp only
 omega
 dsimp only
 omega
 dsimp only
 refine ⟨by rfl, ?_, ?_⟩
 refine Aj ?_
 exact Au
 refine Aj ?_
 exact Au
 exact Bh
 refine A0 ?_ ?_
 simp only [Ah, Af]
 refine Bj ?_
 refine Ab ?_
 refine A0 ?_ ?_
 simp only [Ah, Af]
 have hc := Ag (E := (Dc.at_ 47)) (f := 78) (sp := Spec.pure Du) rfl
 have hs := @Du.eq_1
 refine Ba (hq := by (first | (exact ⟨Ek P, E8 hv.good.sort, by rw [List.length_map]; omega⟩) | exact AQ)) ?_
 refine Ab ?_
 refine A7 ?_
 simp only [Ah, Af]
 refine Ad ?_
 iterate 2 refine Dt ?_
 refine Bj ?_
 iterate 2 refine A4 ?_
 refine Ab ?_
 refine AK ?_
 have hx := And.intro @BH (And.intro @CR hx0)
 refine h19 _ (Ac ?_); clear h19
 refine Ad ?_
 refine Hh ?_
 have hc := Ag (E := (Dc.at_ 47)) (f := 57) (sp := Spec.gen Dh) rfl
 have hs := @Dh.eq_1
 refine BM (hq := by (first | (exact ⟨by omega, hsm, fun hb => ⟨by omega, by have := EQ hv.good.sort hb; omega⟩⟩) | exact AQ)) ?_
 refine Ad ?_
 have hx := hx0
 refine Ab (h17 _ (Ac ?_)); clear h17
 refine Ao ?_
 refine Ad ?_
 refine Ab ?_
 refine h13 _ ⟨i + 1, ?_, ?_, [some 0, some 1, some 2], ?_⟩
 dsimp only
 omega
 dsimp only
 omega
 dsimp only
 refine ⟨by rfl, ?_, ?_⟩
 refine Aj ?_
 exact Au
 refine Aj ?_
 exact Au
 refine A0 ?_ ?_
 simp only [Ah, Af]
 refine Bj ?_
 refine Ab ?_
 refine A7 ?_
 simp only [Ah, Af]
 have hc := Ag (E := (Dc.at_ 47)) (f := 78) (sp := Spec.pure Du) rfl
 have hs := @Du.eq_1
 refine Ba (hq := by (first | (exact ⟨Ek P, E8 hv.good.sort, by rw [List.length_map]; omega⟩) | exact AQ)) ?_
 refine Ad ?_
 iterate 2 refine Dt ?_
 iterate 2 refine A4 ?_
 refine Ab ?_
 refine AK ?_
 have hx := And.intro @BH (And.intro @CR hx0)
 refine h19 _ (Ac ?_); clear h19
 refine Ad ?_
 refine Hh ?_
 have hc := Ag (E := (Dc.at_ 47)) (f := 57) (sp := Spec.gen Dh) rfl
 have hs := @Dh.eq_1
 refine BM (hq := by (first | (exact ⟨by omega, hsm, fun hb => ⟨by omega, by have := EQ hv.good.sort hb; omega⟩⟩) | exact AQ)) ?_
 refine Ad ?_
 have hx := hx0
 refine Ab (h17 _ (Ac ?_)); clear h17
 refine Ao ?_
 refine Ad ?_
 refine Ab ?_
 refine h13 _ ⟨i + 1, ?_, ?_, [some 0, some 1, some 2], ?_⟩
 dsimp only
 omega
 dsimp only
 omega
 dsimp only
 refine ⟨by rfl, ?_, ?_⟩
 refine Aj ?_
 exact Au
 refine Aj ?_
 exact Au
 exact Bh
 exact Bh
 have hie : i = u.length - 2 := by have := hb16; omega
 subst hie
 refine AJ ?_
 simp only [Ae, Nat.reduceEqDiff, reduceIte, eq_self]
 refine h11 _ (Aa fun N20 h20 => Ac ?_); clear h11
 refine Ad ?_
 refine BD ?_
 refine Ad ?_
 refine A4 ?_
 refine Ab (h20 _ (Am ?_)); clear h20
 try simp only [Ae]
 have hr : Eh l P u = (0, 0) := by unfold Eh; rw [if_neg (by rw [hz1]; simp), if_neg (by have := hb8; omega)]
 have hr2 : ED l P u = DQ l P u (u.length - 2) := by unfold ED; rw [hr]; rfl
 rw [hr, hr2]
 refine Aw ?_
 ·(repeat' apply And.intro) <;> (first | (first | rfl | exact Or.inl rfl | exact Or.inr rfl | trivial | (simp; done) | (rw [List.drop_zero, AY, List.take_length]; done)) | exact Au)
 have hz1 := hvx
 have hz2 := hvx
 refine Ac ?_
 refine Aq ?_
 refine BD ?_
 refine Ao ?_
 refine Ab (h4 _ (Ak (fun hb21 => ?_) (fun hb21 => ?_))); clear h4
 refine Aa fun N22 h22 => Ac ?_
 refine Aq ?_
 refine Ad ?_
 refine A4 ?_
 refine Ab (h22 _ (Am ?_)); clear h22
 try simp only [Ae]
 have hr : Eh l P u = Dj l P := by unfold Eh; rw [if_pos hz1]
 have hr2 : ED l P u = [] := by unfold ED; rw [hr, if_pos hz1]
 rw [hr, hr2]
 refine Aw ?_
 exact Au
 exact absurd (show (Dj l P).1 = 0 by have := hb21; first | exact this.1 | exact (Classical.not_not.1 this).1 | (simp at this; exact this.1)) hz1
 cases hg
def HC : Bq Tryz.prog := Dc.add 75 (Spec.pure P5) NH (by kernel_rfl)
