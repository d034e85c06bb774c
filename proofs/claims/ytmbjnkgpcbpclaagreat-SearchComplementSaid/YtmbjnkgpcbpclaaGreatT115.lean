/- Walks, printed by wip/gen/walk.py. -/
import Derived.Test.YtmbjnkgpcbpclaaGreatT114
import Derived.Test.YtmbjnkgpcbpclaaGreatV5
set_option linter.all false
set_option maxRecDepth 100000
set_option maxHeartbeats 4000000
namespace Go.Proofs.YtmbjnkgpcbpclaaGreat
open Go Go.Vc Go.RowKit
theorem Xo {ts : List Bs} {q : List Sn} (hv : BR q = (0, 0)) (h40 : q.length < 40) (hf : L5 ts q = (0, 0)) : Ra ts (H8 q) = (0, 0, J9 ts (H8 q) ts.length) ∧ BV ts = (0, 0) := by
  have hn := Wp hv h40
  have ht : (BV ts).1 = 0 := by
    by_cases h : (BV ts).1 = 0
    · exact h
    · exfalso
      unfold L5 at hf
      rw [if_pos h] at hf
      rw [hf] at h; exact h rfl
  have hf2 : L5 ts (H8 q) = (0, 0) := by
    unfold L5
    rw [if_neg (by rw [ht]; simp), hn]; rfl
  refine ⟨?_, ?_⟩
  · unfold Ra; rw [hf2]; rfl
  · rcases K2 ts with h | h
    · exact absurd ht h.1
    · exact h.1
def Lf : List AV → Option (Prop × AV)
  | [.d (.sl xs), .agg [.d (.sl ys)]] => some (xs = rows eT (dT xs) ∧ (dT xs).length ≤ 9223372036854775807 ∧ (∀ s ∈ dT xs, s.length ≤ 9223372036854775807) ∧ ys = rows DL (C3 ys) ∧ (C3 ys).length ≤ 9223372036854775807 ∧ IG (C3 ys), .d (.bool true))
  | _ => none
theorem R7 (ts : List Bs) (q : List Sn) : (∃ c i : Int, L5 ts q = (c, i) ∧ c ≠ 0 ∧ Ra ts q = (c, i, [])) ∨ (L5 ts q = (0, 0) ∧ BR q = (0, 0) ∧ ts.length ≤ 20 ∧ (∀ s ∈ ts, s.length ≤ 400) ∧ Ra ts q = (0, 0, J9 ts q ts.length) ∧ 40 ≤ q.length) ∨ (L5 ts q = (0, 0) ∧ BR q = (0, 0) ∧ ts.length ≤ 20 ∧ (∀ s ∈ ts, s.length ≤ 400) ∧ Ra ts q = (0, 0, J9 ts q ts.length) ∧ q.length < 40) := by
  rcases Mf ts q with h | ⟨h1, h2, h3, h4, h5⟩
  · exact .inl h
  · rcases Nat.lt_or_ge q.length 40 with h | h
    · exact .inr (.inr ⟨h1, h2, h3, h4, h5, h⟩)
    · exact .inr (.inl ⟨h1, h2, h3, h4, h5, h⟩)
theorem E9 (q : List Sn) : rows DL q ++ [[.int .i64 4, .str [], .int .i64 ((q.length : Int) - 1), .int .i64 0]] = rows DL (H8 q) := JQ _ _ _ _ _
theorem Wv {l : List Int} {P : List AM} {q : List Sn} (h1 : Ca l P = (0, 0)) (h2 : BR q = (0, 0)) : Lx l P q = (0, 0, Ib l P q) := by unfold Lx; rw [h1, h2]; rfl
theorem Wo {q : List Sn} (h : IG q) : IG (H8 q) := fun n hn => by
  rcases List.mem_append.1 hn with hn | hn
  · exact h n hn
  · rw [List.mem_singleton.1 hn]; exact Nat.zero_le _

theorem Mv : A5 Tryz.prog 7 (Spec.pure Lf) := by
 refine A7 (WJ.at_ 105) Tryz.func7 rfl rfl rfl ?_
 intro args p r hg hp
 unfold Lf at hg
 split at hg
 rename_i xs ys
 simp only [Option.some.injEq, Prod.mk.injEq] at hg
 obtain ⟨rfl, rfl⟩ := hg
 obtain ⟨he, hl, hsm, he2, hl2, hbg⟩ := hp
 generalize dT xs = ts at *
 generalize C3 ys = q at *
 subst he he2
 have hT : (WJ).X = T := rfl
 have hx0 := And.intro @EC (And.intro @A0 (And.intro @EB (And.intro @It (And.intro @AX (And.intro @AJ (And.intro @B6 (And.intro @Cu (And.intro @Ct @Tryz.results7))))))))
 have hx := hx0
 refine ⟨by rfl, ?_⟩
 intro F W0 hnp hmk
 refine Aa fun N1 h1 => ?_
 refine Ad ?_
 try refine Ac ?_
 refine FU (hq := by exact Aq) ?_
 refine Ae (hq := by exact Aq) ?_
 refine Ab ?_
 refine h1 _ ?_; clear h1
 refine Aa fun N2 h2 => ?_
 refine Aa fun N3 h3 => ?_
 refine Ad ?_
 try refine Ac ?_
 have hc := Ah (E := (WJ.at_ 105)) (f := 9) (sp := Spec.pure WX) rfl
 have hs := @WX.eq_1
 refine BF (hq := by exact Aq) ?_
 refine Ik (hq := by exact Aq) ?_
 refine Ab ?_
 refine h3 _ ?_; clear h3
 refine Al (fun hb4 => ?_) (fun hb4 => ?_)
 ·first | omega | exact absurd trivial hb4 | contradiction | (simp_all; done)
 refine An ?_
 try simp only [Af]
 refine h2 _ ?_; clear h2
 refine Aa fun N5 h5 => ?_
 rcases R7 ts q with ⟨c, k, e1, e2, hr⟩ | ⟨e1, hv, h20, hsz, hr, h40⟩ | ⟨e1, hv, h20, hsz, hr, h40⟩
 have c1 : (c = 0) = False := eq_false e2
 have c2 := c1
 have hfl := c1
 have hx := And.intro @hr hx0
 refine Ad ?_
 try refine Ac ?_
 refine Ae (hq := by exact Aq) ?_
 refine Ar (hq := by exact Aq) ?_
 have hc := Ah (E := (WJ.at_ 105)) (f := 10) (sp := Spec.pure PQ) rfl
 have hs := @PQ.eq_1
 refine Jw (hq := by (first | ((repeat' apply And.intro) <;> first | rfl | exact hsm | exact hbg | exact hb2 | exact hsz | exact hv | exact hss | exact hio | exact True.intro | omega) | exact Ay)) ?_
 refine Ae (hq := by exact Aq) ?_
 iterate 2 refine DH (hq := by exact Aq) ?_
 refine B8 (hq := by exact Aq) ?_
 refine Ae (hq := by exact Aq) ?_
 refine A8 (hq := by exact Aq) ?_
 refine Ab ?_
 have hx := hx0
 refine h5 _ ?_; clear h5
 refine Aa fun N6 h6 => ?_
 refine Aa fun N7 h7 => ?_
 have hx := And.intro @c1 (And.intro @c2 hx0)
 refine Ad ?_
 try refine Ac ?_
 refine Au (hq := by exact Aq) ?_
 refine Ar (hq := by exact Aq) ?_
 refine Am (hq := by exact Aq) ?_
 refine Ae (hq := by exact Aq) ?_
 refine Av ?_ ?_
 focus (exact Bl)
 refine Av ?_ ?_
 focus (exact Bl)
 refine Av ?_ ?_
 focus (exact Bl)
 refine Av ?_ ?_
 focus (exact Bl)
 refine AQ (hq := by exact Aq) ?_
 refine Ab ?_
 have hx := hx0
 refine h7 _ ?_; clear h7
 refine Al (fun hb8 => ?_) (fun hb8 => ?_)
 refine Aa fun N9 h9 => ?_
 have hx := And.intro @c1 hx0
 refine Ad ?_
 try refine Ac ?_
 refine Au (hq := by exact Aq) ?_
 refine Ar (hq := by exact Aq) ?_
 refine Am (hq := by exact Aq) ?_
 refine Ae (hq := by exact Aq) ?_
 refine Cy (hq := by exact Aq) ?_
 refine MV (hq := by exact Aq) ?_
 refine Fz (hq := by exact Aq) ?_
 refine AQ (hq := by exact Aq) ?_
 refine Ae (hq := by exact Aq) ?_
 refine Ab ?_
 have hx := hx0
 refine h9 _ ?_; clear h9
 refine Ao ?_
 try simp only [Af]
 refine A3 ?_
 ·(repeat' apply And.intro) <;> (first | (first | rfl | trivial | (simp; done)) | exact At)
 ·first | omega | exact absurd trivial hb8 | contradiction | (simp_all; done)
 have c1 := True.intro
 have c2 : ((40 : Int) ≤ (q.length : Int)) = True := eq_true (by omega)
 have hfl := GT ts q ts.length
 have hx := And.intro @hr hx0
 refine Ad ?_
 try refine Ac ?_
 refine Ae (hq := by exact Aq) ?_
 refine Ar (hq := by exact Aq) ?_
 have hc := Ah (E := (WJ.at_ 105)) (f := 10) (sp := Spec.pure PQ) rfl
 have hs := @PQ.eq_1
 refine Jw (hq := by (first | ((repeat' apply And.intro) <;> first | rfl | exact hsm | exact hbg | exact hb2 | exact hsz | exact hv | exact hss | exact hio | exact True.intro | omega) | exact Ay)) ?_
 refine Ae (hq := by exact Aq) ?_
 iterate 2 refine DH (hq := by exact Aq) ?_
 refine B8 (hq := by exact Aq) ?_
 refine Ae (hq := by exact Aq) ?_
 refine A8 (hq := by exact Aq) ?_
 refine Ab ?_
 have hx := hx0
 refine h5 _ ?_; clear h5
 refine Aa fun N10 h10 => ?_
 refine Aa fun N11 h11 => ?_
 have hx := And.intro @c1 (And.intro @c2 hx0)
 refine Ad ?_
 try refine Ac ?_
 refine Au (hq := by exact Aq) ?_
 refine Ar (hq := by exact Aq) ?_
 refine Am (hq := by exact Aq) ?_
 refine Ae (hq := by exact Aq) ?_
 refine D7 (hq := by exact Aq) ?_
 refine DJ (hq := by exact Aq) ?_
 refine MV (hq := by exact Aq) ?_
 refine Fz (hq := by exact Aq) ?_
 refine AQ (hq := by exact Aq) ?_
 refine Ab ?_
 have hx := hx0
 refine h11 _ ?_; clear h11
 refine Al (fun hb12 => ?_) (fun hb12 => ?_)
 refine Aa fun N13 h13 => ?_
 refine Ad ?_
 try refine Ac ?_
 refine Au (hq := by exact Aq) ?_
 refine Ar (hq := by exact Aq) ?_
 refine Am (hq := by exact Aq) ?_
 refine Ae (hq := by exact Aq) ?_
 refine Av ?_ ?_
 focus (exact Bl)
 refine Av ?_ ?_
 focus (exact Bl)
 refine Av ?_ ?_
 focus (exact Bl)
 refine AQ (hq := by exact Aq) ?_
 refine Ae (hq := by exact Aq) ?_
 refine Ab ?_
 refine h13 _ ?_; clear h13
 refine Ao ?_
 try simp only [Af]
 refine A3 ?_
 ·(repeat' apply And.intro) <;> (first | (first | rfl | trivial | (simp; done)) | exact At)
 ·first | omega | exact absurd trivial hb12 | contradiction | (simp_all; done)
 have c1 := True.intro
 have c2 : ((40 : Int) ≤ (q.length : Int)) = False := eq_false (by omega)
 have hfl := GT ts q ts.length
 have hfl2 := GT ts (H8 q) ts.length
 obtain ⟨hr2, htx⟩ := Xo hv h40 e1
 have hb2 := Wo hbg
 have hnl := FL q
 have htk : List.take (q.length + 1) (H8 q) = H8 q := List.take_of_length_le (by rw [hnl]; exact Nat.le_refl _)
 have htk2 : List.take (H8 q).length (H8 q) = H8 q := List.take_length
 obtain ⟨_, h1, _, _⟩ := EI hv
 obtain ⟨JD, JE⟩ : KX ts = Ek ts.length ∧ KW ts = D6 ts ts.length := by
  rcases K2 ts with h | h
  ·rw [htx] at h; exact absurd rfl h.1
  ·exact ⟨h.2.1, h.2.2.1⟩
 have hvi := Vi (ts := ts) h20
 have hsc := Wv (W9 hvi) hv
 have hss := QK hvi
 have hpl := hvi.plen
 have hio : (Ek ts.length).length ≤ 9223372036854775807 := by rw [CF]; omega
 have hmq := S6 (l := Ek ts.length) (P := D6 ts ts.length) h1
 rw [CF] at hmq
 have hx := And.intro @hr hx0
 refine Ad ?_
 try refine Ac ?_
 refine Ae (hq := by exact Aq) ?_
 refine Ar (hq := by exact Aq) ?_
 have hc := Ah (E := (WJ.at_ 105)) (f := 10) (sp := Spec.pure PQ) rfl
 have hs := @PQ.eq_1
 refine Jw (hq := by (first | ((repeat' apply And.intro) <;> first | rfl | exact hsm | exact hbg | exact hb2 | exact hsz | exact hv | exact hss | exact hio | exact True.intro | omega) | exact Ay)) ?_
 refine Ae (hq := by exact Aq) ?_
 iterate 2 refine DH (hq := by exact Aq) ?_
 refine B8 (hq := by exact Aq) ?_
 refine Ae (hq := by exact Aq) ?_
 refine A8 (hq := by exact Aq) ?_
 refine Ab ?_
 have hx := hx0
 refine h5 _ ?_; clear h5
 refine Aa fun N14 h14 => ?_
 refine Aa fun N15 h15 => ?_
 have hx := And.intro @c1 (And.intro @c2 hx0)
 refine Ad ?_
 try refine Ac ?_
 refine Au (hq := by exact Aq) ?_
 refine Ar (hq := by exact Aq) ?_
 refine Am (hq := by exact Aq) ?_
 refine Ae (hq := by exact Aq) ?_
 refine D7 (hq := by exact Aq) ?_
 refine DJ (hq := by exact Aq) ?_
 refine MV (hq := by exact Aq) ?_
 refine Fz (hq := by exact Aq) ?_
 refine AQ (hq := by exact Aq) ?_
 refine Ab ?_
 have hx := hx0
 refine h15 _ ?_; clear h15
 refine Al (fun hb16 => ?_) (fun hb16 => ?_)
 ·first | omega | exact absurd trivial hb16 | contradiction | (simp_all; done)
 refine An ?_
 try simp only [Af]
 refine h14 _ ?_; clear h14
 refine FV (σ := Unit) (fun s => (fun u => True) s)
  (fun s => (fun u => [(0, .d (.sl (rows eT ts))), (3, .ptr 0 0 0), (5, .d (.sl (rows eI (J9 ts q ts.length)))), (6, .ptr 1 0 0), (7, .sl 2 0 (H8 q).length)]) s)
  (fun s => (fun u => [some (.one 25 [.d (.sl (rows DL q))]), some (.one 29 [.d (.int .i64 0), .d (.int .i64 0)]), some (.vec 55 4 (rows DL (H8 q)))]) s) hnp ?_ ?_
 rintro u hinv
 dsimp only at hinv ⊢
 refine Aa fun N18 h18 => ?_
 have hx := And.intro @htk (And.intro @htk2 (And.intro @hr2 hx0))
 refine Ad ?_
 try refine Ac ?_
 iterate 2 refine Ae (hq := by exact Aq) ?_
 refine BC (hq := by exact Aq) ?_
 have hc := Ah (E := (WJ.at_ 105)) (f := 10) (sp := Spec.pure PQ) rfl
 have hs := @PQ.eq_1
 refine Jw (hq := by (first | ((repeat' apply And.intro) <;> first | rfl | exact hsm | exact hbg | exact hb2 | exact hsz | exact hv | exact hss | exact hio | exact True.intro | omega) | exact Ay)) ?_
 refine Ae (hq := by exact Aq) ?_
 iterate 2 refine DH (hq := by exact Aq) ?_
 refine B8 (hq := by exact Aq) ?_
 refine Ae (hq := by exact Aq) ?_
 refine A8 (hq := by exact Aq) ?_
 refine Ab ?_
 have hx := hx0
 refine h18 _ ?_; clear h18
 refine Aa fun N19 h19 => ?_
 have hx := And.intro @htx (And.intro @JD (And.intro @JE hx0))
 refine Ad ?_
 try refine Ac ?_
 refine Ae (hq := by exact Aq) ?_
 have hc := Ah (E := (WJ.at_ 105)) (f := 25) (sp := Spec.pure Du) rfl
 have hs := @Du.eq_1
 refine Jw (hq := by (first | ((repeat' apply And.intro) <;> first | rfl | exact hsm | exact hbg | exact hb2 | exact hsz | exact hv | exact hss | exact hio | exact True.intro | omega) | exact Ay)) ?_
 refine Ae (hq := by exact Aq) ?_
 iterate 2 refine DH (hq := by exact Aq) ?_
 iterate 2 refine B8 (hq := by exact Aq) ?_
 iterate 2 refine A8 (hq := by exact Aq) ?_
 refine Ab ?_
 have hx := hx0
 refine h19 _ ?_; clear h19
 refine Aa fun N20 h20 => ?_
 have hx := And.intro @hsc hx0
 refine Ad ?_
 try refine Ac ?_
 iterate 2 refine Ar (hq := by exact Aq) ?_
 have hc := Ah (E := (WJ.at_ 105)) (f := 22) (sp := Spec.pure Tm) rfl
 have hs := @Tm.eq_1
 refine Jw (hq := by (first | ((repeat' apply And.intro) <;> first | rfl | exact hsm | exact hbg | exact hb2 | exact hsz | exact hv | exact hss | exact hio | exact True.intro | omega) | exact Ay)) ?_
 refine Ae (hq := by exact Aq) ?_
 iterate 2 refine DH (hq := by exact Aq) ?_
 refine B8 (hq := by exact Aq) ?_
 refine Ae (hq := by exact Aq) ?_
 refine A8 (hq := by exact Aq) ?_
 refine Ab ?_
 have hx := hx0
 refine h20 _ ?_; clear h20
 refine Aa fun N21 h21 => ?_
 refine Aa fun N22 h22 => ?_
 refine Ad ?_
 try refine Ac ?_
 refine Au (hq := by exact Aq) ?_
 refine Ar (hq := by exact Aq) ?_
 refine Am (hq := by exact Aq) ?_
 refine Ae (hq := by exact Aq) ?_
 refine D7 (hq := by exact Aq) ?_
 refine DJ (hq := by exact Aq) ?_
 refine Fz (hq := by exact Aq) ?_
 refine AQ (hq := by exact Aq) ?_
 refine Ae (hq := by exact Aq) ?_
 refine D7 (hq := by exact Aq) ?_
 refine DJ (hq := by exact Aq) ?_
 refine Fz (hq := by exact Aq) ?_
 refine AQ (hq := by exact Aq) ?_
 refine Ab ?_
 refine h22 _ ?_; clear h22
 refine Al (fun hb23 => ?_) (fun hb23 => ?_)
 ·first | omega | exact absurd trivial hb23 | contradiction | (simp_all; done)
 refine An ?_
 try simp only [Af]
 refine h21 _ ?_; clear h21
 refine Aa fun N24 h24 => ?_
 refine Aa fun N25 h25 => ?_
 refine Ad ?_
 try refine Ac ?_
 refine Ae (hq := by exact Aq) ?_
 refine Ab ?_
 refine h25 _ ?_; clear h25
 refine Aw ?_
 refine A9 (σ := Nat) (fun s => (fun i => i ≤ ts.length) s)
  (fun s => (fun i => [(0, .d (.sl (rows eT ts))), (3, .ptr 0 0 0), (5, .d (.sl (rows eI (J9 ts q ts.length)))), (8, .d (.sl (rows eI (J9 ts (H8 q) ts.length)))), (12, .d (.sl (rows eI (Ib (Ek ts.length) (D6 ts ts.length) q)))), (14, .d (.int .i64 (i : Nat)))]) s)
  (fun s => (fun i => [some (.one 25 [.d (.sl (rows DL q))])]) s) (fun s => (fun i => ts.length - i) s) hnp 0 ?_ [some 0] ?_ ?_
 dsimp only
 omega
 dsimp only
 refine ⟨by rfl, ?_, ?_⟩
 refine Aj ?_
 exact At
 refine Aj ?_
 exact At
 rintro i hinv N26 h26
 dsimp only at hinv ⊢
 have i1 := hinv
 refine Aa fun N27 h27 => ?_
 refine Aa fun N28 h28 => ?_
 refine Ad ?_
 try refine Ac ?_
 iterate 2 refine Ae (hq := by exact Aq) ?_
 refine Bm (hq := by exact Aq) ?_
 refine Am (hq := by exact Aq) ?_
 refine Ab ?_
 refine h28 _ ?_; clear h28
 refine Al (fun hb29 => ?_) (fun hb29 => ?_)
 have hil : i < ts.length := by have := hb29; (try simp at this); omega
 obtain ⟨z, hze⟩ := Cb (l := ts) (i := i) hil
 have hzd : ts.getD i [] = z := by rw [List.getD_eq_getElem?_getD, hze]; rfl
 have hA := RM (ts := ts) (q := q) hil
 have hB := RM (ts := ts) (q := H8 q) hil
 rw [hzd] at hA hB
 rw [Xp h1] at hB
 have hC := U9 hv hze
 refine An ?_
 try simp only [Af]
 refine h27 _ ?_; clear h27
 refine Aa fun N30 h30 => ?_
 refine Aw ?_
 refine Aa fun N31 h31 => ?_
 cases hm : Qq z q
 rw [hm] at hA hB
 have hC2 := hA
 have hx := And.intro @hA (And.intro @hB (And.intro @hC2 (And.intro @Bool.not_true (And.intro @Bool.not_false hx0))))
 refine Ad ?_
 try refine Ac ?_
 refine Ae (hq := by (first | ((repeat' apply And.intro) <;> first | rfl | exact hsm | exact hbg | exact hb2 | exact hsz | exact hv | exact hss | exact hio | exact True.intro | omega) | exact Ay)) ?_
 refine Ae (hq := by (first | ((repeat' apply And.intro) <;> first | rfl | exact hsm | exact hbg | exact hb2 | exact hsz | exact hv | exact hss | exact hio | exact True.intro | omega) | exact Ay)) ?_
 have hc := Ah (E := (WJ.at_ 105)) (f := 26) (sp := Spec.pure FF) rfl
 have hs := @FF.eq_1
 refine BF (hq := by (first | ((repeat' apply And.intro) <;> first | rfl | exact hsm | exact hbg | exact hb2 | exact hsz | exact hv | exact hss | exact hio | exact True.intro | omega) | exact Ay)) ?_
 refine Ae (hq := by (first | ((repeat' apply And.intro) <;> first | rfl | exact hsm | exact hbg | exact hb2 | exact hsz | exact hv | exact hss | exact hio | exact True.intro | omega) | exact Ay)) ?_
 refine Ae (hq := by (first | ((repeat' apply And.intro) <;> first | rfl | exact hsm | exact hbg | exact hb2 | exact hsz | exact hv | exact hss | exact hio | exact True.intro | omega) | exact Ay)) ?_
 have hc := Ah (E := (WJ.at_ 105)) (f := 26) (sp := Spec.pure FF) rfl
 have hs := @FF.eq_1
 refine BF (hq := by (first | ((repeat' apply And.intro) <;> first | rfl | exact hsm | exact hbg | exact hb2 | exact hsz | exact hv | exact hss | exact hio | exact True.intro | omega) | exact Ay)) ?_
 refine Am (hq := by (first | ((repeat' apply And.intro) <;> first | rfl | exact hsm | exact hbg | exact hb2 | exact hsz | exact hv | exact hss | exact hio | exact True.intro | omega) | exact Ay)) ?_
 refine Ae (hq := by (first | ((repeat' apply And.intro) <;> first | rfl | exact hsm | exact hbg | exact hb2 | exact hsz | exact hv | exact hss | exact hio | exact True.intro | omega) | exact Ay)) ?_
 refine Cy (hq := by (first | ((repeat' apply And.intro) <;> first | rfl | exact hsm | exact hbg | exact hb2 | exact hsz | exact hv | exact hss | exact hio | exact True.intro | omega) | exact Ay)) ?_
 refine Cy (hq := by (first | ((repeat' apply And.intro) <;> first | rfl | exact hsm | exact hbg | exact hb2 | exact hsz | exact hv | exact hss | exact hio | exact True.intro | omega) | exact Ay)) ?_
 have hc := Ah (E := (WJ.at_ 105)) (f := 26) (sp := Spec.pure FF) rfl
 have hs := @FF.eq_1
 refine TH (hq := by (first | ((repeat' apply And.intro) <;> first | rfl | exact hsm | exact hbg | exact hb2 | exact hsz | exact hv | exact hss | exact hio | exact True.intro | omega) | exact Ay)) ?_
 refine Cy (hq := by (first | ((repeat' apply And.intro) <;> first | rfl | exact hsm | exact hbg | exact hb2 | exact hsz | exact hv | exact hss | exact hio | exact True.intro | omega) | exact Ay)) ?_
 refine Av ?_ ?_
 focus (exact Bl)
 refine Av ?_ ?_
 focus (exact Bl)
 refine Av ?_ ?_
 focus (exact Bl)
 refine Av ?_ ?_
 focus (exact Bl)
 refine QT (hq := by (first | ((repeat' apply And.intro) <;> first | rfl | exact hsm | exact hbg | exact hb2 | exact hsz | exact hv | exact hss | exact hio | exact True.intro | omega) | exact Ay)) ?_
 refine AQ (hq := by (first | ((repeat' apply And.intro) <;> first | rfl | exact hsm | exact hbg | exact hb2 | exact hsz | exact hv | exact hss | exact hio | exact True.intro | omega) | exact Ay)) ?_
 refine Ab ?_
 have hx := hx0
 refine h31 _ ?_; clear h31
 refine Al (fun hb32 => ?_) (fun hb32 => ?_)
 ·first | omega | exact absurd trivial hb32 | contradiction | (simp_all; done)
 refine An ?_
 try simp only [Af]
 refine h30 _ ?_; clear h30
 refine Ad ?_
 try refine Ac ?_
 refine Ae (hq := by exact Aq) ?_
 refine Am (hq := by exact Aq) ?_
 refine Ae (hq := by exact Aq) ?_
 refine Ab ?_
 refine h26 _ ⟨i + 1, ?_, ?_, [some 0], ?_⟩
 dsimp only
 omega
 dsimp only
 omega
 dsimp only
 refine ⟨by rfl, ?_, ?_⟩
 refine Aj ?_
 exact At
 refine Aj ?_
 exact At
 rw [hm] at hA hB
 have hC2 : decide ((i : Int) ∈ Ib (Ek ts.length) (D6 ts ts.length) q) = true := decide_eq_true (hC hm)
 have hx := And.intro @hA (And.intro @hB (And.intro @hC2 (And.intro @Bool.not_true (And.intro @Bool.not_false hx0))))
 refine Ad ?_
 try refine Ac ?_
 refine Ae (hq := by (first | ((repeat' apply And.intro) <;> first | rfl | exact hsm | exact hbg | exact hb2 | exact hsz | exact hv | exact hss | exact hio | exact True.intro | omega) | exact Ay)) ?_
 refine Ae (hq := by (first | ((repeat' apply And.intro) <;> first | rfl | exact hsm | exact hbg | exact hb2 | exact hsz | exact hv | exact hss | exact hio | exact True.intro | omega) | exact Ay)) ?_
 have hc := Ah (E := (WJ.at_ 105)) (f := 26) (sp := Spec.pure FF) rfl
 have hs := @FF.eq_1
 refine BF (hq := by (first | ((repeat' apply And.intro) <;> first | rfl | exact hsm | exact hbg | exact hb2 | exact hsz | exact hv | exact hss | exact hio | exact True.intro | omega) | exact Ay)) ?_
 refine Ae (hq := by (first | ((repeat' apply And.intro) <;> first | rfl | exact hsm | exact hbg | exact hb2 | exact hsz | exact hv | exact hss | exact hio | exact True.intro | omega) | exact Ay)) ?_
 refine Ae (hq := by (first | ((repeat' apply And.intro) <;> first | rfl | exact hsm | exact hbg | exact hb2 | exact hsz | exact hv | exact hss | exact hio | exact True.intro | omega) | exact Ay)) ?_
 have hc := Ah (E := (WJ.at_ 105)) (f := 26) (sp := Spec.pure FF) rfl
 have hs := @FF.eq_1
 refine BF (hq := by (first | ((repeat' apply And.intro) <;> first | rfl | exact hsm | exact hbg | exact hb2 | exact hsz | exact hv | exact hss | exact hio | exact True.intro | omega) | exact Ay)) ?_
 refine Am (hq := by (first | ((repeat' apply And.intro) <;> first | rfl | exact hsm | exact hbg | exact hb2 | exact hsz | exact hv | exact hss | exact hio | exact True.intro | omega) | exact Ay)) ?_
 refine Ae (hq := by (first | ((repeat' apply And.intro) <;> first | rfl | exact hsm | exact hbg | exact hb2 | exact hsz | exact hv | exact hss | exact hio | exact True.intro | omega) | exact Ay)) ?_
 refine Cy (hq := by (first | ((repeat' apply And.intro) <;> first | rfl | exact hsm | exact hbg | exact hb2 | exact hsz | exact hv | exact hss | exact hio | exact True.intro | omega) | exact Ay)) ?_
 refine Cy (hq := by (first | ((repeat' apply And.intro) <;> first | rfl | exact hsm | exact hbg | exact hb2 | exact hsz | exact hv | exact hss | exact hio | exact True.intro | omega) | exact Ay)) ?_
 have hc := Ah (E := (WJ.at_ 105)) (f := 26) (sp := Spec.pure FF) rfl
 have hs := @FF.eq_1
 refine TH (hq := by (first | ((repeat' apply And.intro) <;> first | rfl | exact hsm | exact hbg | exact hb2 | exact hsz | exact hv | exact hss | exact hio | exact True.intro | omega) | exact Ay)) ?_
 refine Cy (hq := by (first | ((repeat' apply And.intro) <;> first | rfl | exact hsm | exact hbg | exact hb2 | exact hsz | exact hv | exact hss | exact hio | exact True.intro | omega) | exact Ay)) ?_
 refine Cy (hq := by (first | ((repeat' apply And.intro) <;> first | rfl | exact hsm | exact hbg | exact hb2 | exact hsz | exact hv | exact hss | exact hio | exact True.intro | omega) | exact Ay)) ?_
 refine Cy (hq := by (first | ((repeat' apply And.intro) <;> first | rfl | exact hsm | exact hbg | exact hb2 | exact hsz | exact hv | exact hss | exact hio | exact True.intro | omega) | exact Ay)) ?_
 have hc := Ah (E := (WJ.at_ 105)) (f := 26) (sp := Spec.pure FF) rfl
 have hs := @FF.eq_1
 refine TH (hq := by (first | ((repeat' apply And.intro) <;> first | rfl | exact hsm | exact hbg | exact hb2 | exact hsz | exact hv | exact hss | exact hio | exact True.intro | omega) | exact Ay)) ?_
 refine W8 (hq := by (first | ((repeat' apply And.intro) <;> first | rfl | exact hsm | exact hbg | exact hb2 | exact hsz | exact hv | exact hss | exact hio | exact True.intro | omega) | exact Ay)) ?_
 refine QT (hq := by (first | ((repeat' apply And.intro) <;> first | rfl | exact hsm | exact hbg | exact hb2 | exact hsz | exact hv | exact hss | exact hio | exact True.intro | omega) | exact Ay)) ?_
 refine AQ (hq := by (first | ((repeat' apply And.intro) <;> first | rfl | exact hsm | exact hbg | exact hb2 | exact hsz | exact hv | exact hss | exact hio | exact True.intro | omega) | exact Ay)) ?_
 refine Ab ?_
 have hx := hx0
 refine h31 _ ?_; clear h31
 refine Al (fun hb33 => ?_) (fun hb33 => ?_)
 ·first | omega | exact absurd trivial hb33 | contradiction | (simp_all; done)
 refine An ?_
 try simp only [Af]
 refine h30 _ ?_; clear h30
 refine Ad ?_
 try refine Ac ?_
 refine Ae (hq := by exact Aq) ?_
 refine Am (hq := by exact Aq) ?_
 refine Ae (hq := by exact Aq) ?_
 refine Ab ?_
 refine h26 _ ⟨i + 1, ?_, ?_, [some 0], ?_⟩
 dsimp only
 omega
 dsimp only
 omega
 dsimp only
 refine ⟨by rfl, ?_, ?_⟩
 refine Aj ?_
 exact At
 refine Aj ?_
 exact At
 refine Be ?_
 simp only [Af, Nat.reduceEqDiff, reduceIte, eq_self]
 refine h24 _ ?_; clear h24
 refine Aa fun N34 h34 => ?_
 refine Ad ?_
 try refine Ac ?_
 refine Ae (hq := by exact Aq) ?_
 refine Ab ?_
 refine h34 _ ?_; clear h34
 refine Ao ?_
 try simp only [Af]
 refine A3 ?_
 ·(repeat' apply And.intro) <;> (first | (first | rfl | trivial | (simp; done)) | exact At)
 intro N17 h17
 refine Fs [1000042] (.seq [0, 1, 3, 4, 5, 6, 7] (.alt 2 (.seq [8, 9, 10] .nil) (.alt 8 (.seq [2, 9, 10] .nil) .nil))) Gm (by kernel_rfl) ?_
 refine Bb ?_
 simp only [Ak, Ai]
 try refine Ac ?_
 refine Au (hq := by (first | (first | exact True.intro | (unfold BJ; omega) | omega | (refine ⟨trivial, ?_, ?_⟩ <;> first | exact of_eq_true (A0 q) | (simp [rows]; omega)) | (constructor <;> first | exact of_eq_true (A0 q) | (simp [rows]; omega))) | exact Ay)) ?_
 refine Ar (hq := by (first | (first | exact True.intro | (unfold BJ; omega) | omega | (refine ⟨trivial, ?_, ?_⟩ <;> first | exact of_eq_true (A0 q) | (simp [rows]; omega)) | (constructor <;> first | exact of_eq_true (A0 q) | (simp [rows]; omega))) | exact Ay)) ?_
 refine Au (hq := by (first | (first | exact True.intro | (unfold BJ; omega) | omega | (refine ⟨trivial, ?_, ?_⟩ <;> first | exact of_eq_true (A0 q) | (simp [rows]; omega)) | (constructor <;> first | exact of_eq_true (A0 q) | (simp [rows]; omega))) | exact Ay)) ?_
 refine Ar (hq := by (first | (first | exact True.intro | (unfold BJ; omega) | omega | (refine ⟨trivial, ?_, ?_⟩ <;> first | exact of_eq_true (A0 q) | (simp [rows]; omega)) | (constructor <;> first | exact of_eq_true (A0 q) | (simp [rows]; omega))) | exact Ay)) ?_
 refine Bm (hq := by (first | (first | exact True.intro | (unfold BJ; omega) | omega | (refine ⟨trivial, ?_, ?_⟩ <;> first | exact of_eq_true (A0 q) | (simp [rows]; omega)) | (constructor <;> first | exact of_eq_true (A0 q) | (simp [rows]; omega))) | exact Ay)) ?_
 refine Am (hq := by (first | (first | exact True.intro | (unfold BJ; omega) | omega | (refine ⟨trivial, ?_, ?_⟩ <;> first | exact of_eq_true (A0 q) | (simp [rows]; omega)) | (constructor <;> first | exact of_eq_true (A0 q) | (simp [rows]; omega))) | exact Ay)) ?_
 refine BC (hq := by (first | (first | exact True.intro | (unfold BJ; omega) | omega | (refine ⟨trivial, ?_, ?_⟩ <;> first | exact of_eq_true (A0 q) | (simp [rows]; omega)) | (constructor <;> first | exact of_eq_true (A0 q) | (simp [rows]; omega))) | exact Ay)) ?_
 refine Ab ?_
 refine AN ?_ ?_
 simp only [Ak, Ai]
 try refine Ac ?_
 refine Ij (hq := by (first | (first | exact True.intro | (unfold BJ; omega) | omega | (refine ⟨trivial, ?_, ?_⟩ <;> first | exact of_eq_true (A0 q) | (simp [rows]; omega)) | (constructor <;> first | exact of_eq_true (A0 q) | (simp [rows]; omega))) | exact Ay)) ?_
 refine Ab ?_
 refine Bb ?_
 simp only [Ak, Ai]
 try refine Ac ?_
 refine GE (hq := by (first | (first | exact True.intro | (unfold BJ; omega) | omega | (refine ⟨trivial, ?_, ?_⟩ <;> first | exact of_eq_true (A0 q) | (simp [rows]; omega)) | (constructor <;> first | exact of_eq_true (A0 q) | (simp [rows]; omega))) | exact Ay)) ?_
 refine Ij (hq := by (first | (first | exact True.intro | (unfold BJ; omega) | omega | (refine ⟨trivial, ?_, ?_⟩ <;> first | exact of_eq_true (A0 q) | (simp [rows]; omega)) | (constructor <;> first | exact of_eq_true (A0 q) | (simp [rows]; omega))) | exact Ay)) ?_
 refine Ae (hq := by (first | (first | exact True.intro | (unfold BJ; omega) | omega | (refine ⟨trivial, ?_, ?_⟩ <;> first | exact of_eq_true (A0 q) | (simp [rows]; omega)) | (constructor <;> first | exact of_eq_true (A0 q) | (simp [rows]; omega))) | exact Ay)) ?_
 refine Ab ?_
 refine B9 ?_
 refine h17 _ ⟨(), trivial, [some 0, some 1, some 4], ?_⟩
 dsimp only
 refine ⟨by rfl, ?_, ?_⟩
 refine Aj ?_
 ·(repeat' apply And.intro) <;> (first | (first | (with_reducible rfl) | exact True.intro | trivial | rfl | omega | (rw [List.take_of_length_le (by simp [rows]), E9]; done) | (rw [E9]; done) | exact Or.inl rfl) | exact At)
 refine Aj ?_
 ·(repeat' apply And.intro) <;> (first | (first | (with_reducible rfl) | exact True.intro | trivial | rfl | omega | (rw [List.take_of_length_le (by simp [rows]), E9]; done) | (rw [E9]; done) | exact Or.inl rfl) | exact At)
 refine AN ?_ ?_
 simp only [Ak, Ai]
 try refine Ac ?_
 refine GE (hq := by (first | (first | exact True.intro | (unfold BJ; omega) | omega | (refine ⟨trivial, ?_, ?_⟩ <;> first | exact of_eq_true (A0 q) | (simp [rows]; omega)) | (constructor <;> first | exact of_eq_true (A0 q) | (simp [rows]; omega))) | exact Ay)) ?_
 refine Ab ?_
 refine Bb ?_
 simp only [Ak, Ai]
 try refine Ac ?_
 refine Ij (hq := by (first | (first | exact True.intro | (unfold BJ; omega) | omega | (refine ⟨trivial, ?_, ?_⟩ <;> first | exact of_eq_true (A0 q) | (simp [rows]; omega)) | (constructor <;> first | exact of_eq_true (A0 q) | (simp [rows]; omega))) | exact Ay)) ?_
 refine Ij (hq := by (first | (first | exact True.intro | (unfold BJ; omega) | omega | (refine ⟨trivial, ?_, ?_⟩ <;> first | exact of_eq_true (A0 q) | (simp [rows]; omega)) | (constructor <;> first | exact of_eq_true (A0 q) | (simp [rows]; omega))) | exact Ay)) ?_
 refine Ae (hq := by (first | (first | exact True.intro | (unfold BJ; omega) | omega | (refine ⟨trivial, ?_, ?_⟩ <;> first | exact of_eq_true (A0 q) | (simp [rows]; omega)) | (constructor <;> first | exact of_eq_true (A0 q) | (simp [rows]; omega))) | exact Ay)) ?_
 refine Ab ?_
 refine B9 ?_
 refine h17 _ ⟨(), trivial, [some 0, some 1, some 4], ?_⟩
 dsimp only
 refine ⟨by rfl, ?_, ?_⟩
 refine Aj ?_
 ·(repeat' apply And.intro) <;> (first | (first | (with_reducible rfl) | exact True.intro | trivial | rfl | omega | (rw [List.take_of_length_le (by simp [rows]), E9]; done) | (rw [E9]; done) | exact Or.inl rfl) | exact At)
 refine Aj ?_
 ·(repeat' apply And.intro) <;> (first | (first | (with_reducible rfl) | exact True.intro | trivial | rfl | omega | (rw [List.take_of_length_le (by simp [rows]), E9]; done) | (rw [E9]; done) | exact Or.inl rfl) | exact At)
 exact Cl
 cases hg
end Go.Proofs.YtmbjnkgpcbpclaaGreat
