/- Walks, printed by wip/gen/walk.py. -/
import Derived.Test.YtmbjnkgpcbpclaaGreatT59
import Derived.Test.YtmbjnkgpcbpclaaGreatV5
set_option linter.all false
set_option maxRecDepth 100000
set_option maxHeartbeats 4000000
namespace Go.Proofs.YtmbjnkgpcbpclaaGreat
open Go Go.Vc Go.RowKit
def J9 (ts : List Bs) (q : List Sn) : Nat → List Int
  | 0 => []
  | i + 1 => if Qq (ts.getD i []) q = true then J9 ts q i ++ [(i : Int)] else J9 ts q i
theorem GT (ts : List Bs) (q : List Sn) : ∀ i, (J9 ts q i).length ≤ i
  | 0 => Nat.le_refl _
  | i + 1 => by
    have := GT ts q i
    unfold J9
    split
    · simp; omega
    · omega
def Ra (ts : List Bs) (q : List Sn) : Int × Int × List Int := if (L5 ts q).1 ≠ 0 then ((L5 ts q).1, (L5 ts q).2, []) else (0, 0, J9 ts q ts.length)
def PQ : List AV → Option (Prop × AV)
  | [.d (.sl xs), .agg [.d (.sl ys)]] => some (xs = rows eT (dT xs) ∧ (dT xs).length ≤ 9223372036854775807 ∧ (∀ s ∈ dT xs, s.length ≤ 9223372036854775807) ∧ ys = rows DL (C3 ys) ∧ (C3 ys).length ≤ 9223372036854775807 ∧ IG (C3 ys), .tup [.d (.sl (rows eI (Ra (dT xs) (C3 ys)).2.2)), .agg [.d (.int .i64 (Ra (dT xs) (C3 ys)).1), .d (.int .i64 (Ra (dT xs) (C3 ys)).2.1)]])
  | _ => none
theorem VZ {ts : List Bs} {q : List Sn} {i : Nat} {z : Bs} (h : ts.getD i [] = z) (hm : Qq z q = true) : J9 ts q (i + 1) = J9 ts q i ++ [(i : Int)] := by show (if _ then _ else _) = _; rw [h, if_pos hm]
theorem WZ {ts : List Bs} {q : List Sn} {i : Nat} {z : Bs} (h : ts.getD i [] = z) (hm : Qq z q = false) : J9 ts q (i + 1) = J9 ts q i := by show (if _ then _ else _) = _; rw [h, if_neg (by rw [hm]; simp)]
theorem XD (l : List Int) (k : Int) : rows eI l ++ [[.int .i64 k]] = rows eI (l ++ [k]) := by simp [rows, eI]
theorem Mf (ts : List Bs) (q : List Sn) : (∃ c i : Int, L5 ts q = (c, i) ∧ c ≠ 0 ∧ Ra ts q = (c, i, [])) ∨ (L5 ts q = (0, 0) ∧ BR q = (0, 0) ∧ ts.length ≤ 20 ∧ (∀ s ∈ ts, s.length ≤ 400) ∧ Ra ts q = (0, 0, J9 ts q ts.length)) := by
  unfold Ra
  rcases LZ ts q with ⟨c, i, e1, e2, e3⟩ | ⟨e1, c, i, e2, e3, e4⟩ | ⟨e1, e2, e3⟩
  · exact .inl ⟨c, i, e3, e2, by rw [e3]; exact if_pos e2⟩
  · exact .inl ⟨c, -2, e4, e3, by rw [e4]; exact if_pos e3⟩
  · obtain ⟨_, h2, h3⟩ := Jv (ts := ts) (by rw [e1])
    exact .inr ⟨e3, e2, h2, h3, by rw [e3]; exact if_neg (by simp)⟩

theorem PS : A5 Tryz.prog 10 (Spec.pure PQ) := by
 refine A7 (JH.at_ 34) Tryz.func10 rfl rfl rfl ?_
 intro args p r hg hp
 unfold PQ at hg
 split at hg
 rename_i xs ys
 simp only [Option.some.injEq, Prod.mk.injEq] at hg
 obtain ⟨rfl, rfl⟩ := hg
 obtain ⟨he, hl, hsm, he2, hl2, hbg⟩ := hp
 generalize dT xs = ts at *
 generalize C3 ys = q at *
 subst he he2
 have hT : (JH).X = T := rfl
 have hx0 := And.intro @EC (And.intro @A0 (And.intro @It (And.intro @AX (And.intro @AJ (And.intro @Cu (And.intro @Ct @Tryz.results10))))))
 have hx := hx0
 refine ⟨by rfl, ?_⟩
 intro F W0 hnp hmk
 refine Aa fun N1 h1 => ?_
 refine Ad ?_
 try refine Ac ?_
 refine FU (hq := by exact Aq) ?_
 refine Ae (hq := by exact Aq) ?_
 refine B8 (hq := by exact Aq) ?_
 refine Ab ?_
 refine h1 _ ?_; clear h1
 refine Aa fun N2 h2 => ?_
 refine Aa fun N3 h3 => ?_
 rcases Mf ts q with ⟨c, k, e1, e2, hr⟩ | ⟨e1, hv, h20, hsz, hr⟩
 have c1 : (c = 0) = False := eq_false e2
 have hx := And.intro @e1 hx0
 refine Ad ?_
 try refine Ac ?_
 refine Ae (hq := by exact Aq) ?_
 refine Ar (hq := by exact Aq) ?_
 have hc := Ah (E := (JH.at_ 34)) (f := 31) (sp := Spec.pure VY) rfl
 have hs := @VY.eq_1
 refine BF (hq := by (first | (exact ⟨trivial, hl, hsm, trivial, hl2, hbg⟩) | exact Ay)) ?_
 refine B8 (hq := by exact Aq) ?_
 refine A8 (hq := by exact Aq) ?_
 refine Ab ?_
 have hx := hx0
 refine h3 _ ?_; clear h3
 refine Aa fun N4 h4 => ?_
 have hx := And.intro @c1 hx0
 refine Ad ?_
 try refine Ac ?_
 refine Ar (hq := by exact Aq) ?_
 refine BC (hq := by exact Aq) ?_
 refine Am (hq := by exact Aq) ?_
 refine Ab ?_
 have hx := hx0
 refine h4 _ ?_; clear h4
 refine Al (fun hb5 => ?_) (fun hb5 => ?_)
 refine Aa fun N6 h6 => ?_
 refine Ad ?_
 try refine Ac ?_
 refine Ar (hq := by exact Aq) ?_
 refine Ae (hq := by exact Aq) ?_
 refine A8 (hq := by exact Aq) ?_
 refine Ab ?_
 refine h6 _ ?_; clear h6
 refine Ao ?_
 try simp only [Af]
 rw [hr]
 refine A3 ?_
 ·(repeat' apply And.intro) <;> (first | (first | rfl | trivial | omega | (rw [List.take_of_length_le (by simp [rows])]; done) | (simp [rows]; done)) | exact At)
 ·first | omega | exact absurd trivial hb5 | contradiction | (simp_all; done)
 have c1 := True.intro
 have hx := And.intro @e1 hx0
 refine Ad ?_
 try refine Ac ?_
 refine Ae (hq := by exact Aq) ?_
 refine Ar (hq := by exact Aq) ?_
 have hc := Ah (E := (JH.at_ 34)) (f := 31) (sp := Spec.pure VY) rfl
 have hs := @VY.eq_1
 refine BF (hq := by (first | (exact ⟨trivial, hl, hsm, trivial, hl2, hbg⟩) | exact Ay)) ?_
 refine B8 (hq := by exact Aq) ?_
 refine A8 (hq := by exact Aq) ?_
 refine Ab ?_
 have hx := hx0
 refine h3 _ ?_; clear h3
 refine Aa fun N7 h7 => ?_
 have hx := And.intro @c1 hx0
 refine Ad ?_
 try refine Ac ?_
 refine Ar (hq := by exact Aq) ?_
 refine BC (hq := by exact Aq) ?_
 refine Am (hq := by exact Aq) ?_
 refine Ab ?_
 have hx := hx0
 refine h7 _ ?_; clear h7
 refine Al (fun hb8 => ?_) (fun hb8 => ?_)
 ·first | omega | exact absurd trivial hb8 | contradiction | (simp_all; done)
 refine An ?_
 try simp only [Af]
 refine h2 _ ?_; clear h2
 refine Aa fun N9 h9 => ?_
 refine Ad ?_
 try refine Ac ?_
 refine Ae (hq := by exact Aq) ?_
 refine Ab ?_
 refine h9 _ ?_; clear h9
 refine Aa fun N10 h10 => ?_
 refine Aa fun N11 h11 => ?_
 refine Ad ?_
 try refine Ac ?_
 refine Ae (hq := by exact Aq) ?_
 refine Bm (hq := by exact Aq) ?_
 refine Ae (hq := by exact Aq) ?_
 refine Ab ?_
 refine h11 _ ?_; clear h11
 refine Aw ?_
 refine A9 (σ := Nat) (fun s => (fun i => i ≤ ts.length) s)
  (fun s => (fun i => [(0, .d (.sl (rows eT ts))), (3, .ptr 0 0 0), (5, .ptr 1 0 0), (7, .sl 2 0 (J9 ts q i).length), (17, .d (.sl (rows eT ts))), (18, .d (.int .i64 (ts.length : Nat))), (19, .d (.int .i64 (i : Nat)))]) s)
  (fun s => (fun i => [some (.one 25 [.d (.sl (rows DL q))]), some (.one 29 [.d (.int .i64 0), .d (.int .i64 0)]), some (.vec 3 1 (rows eI (J9 ts q i)))]) s) (fun s => (fun i => ts.length - i) s) hnp 0 ?_ [some 0, some 1, none] ?_ ?_
 dsimp only
 omega
 dsimp only
 refine ⟨by rfl, ?_, ?_⟩
 refine Aj ?_
 exact At
 refine Aj ?_
 exact At
 rintro i hinv N12 h12
 dsimp only at hinv ⊢
 have i1 := hinv
 have hfl := GT ts q i
 refine Aa fun N13 h13 => ?_
 refine Ad ?_
 try refine Ac ?_
 refine Am (hq := by exact Aq) ?_
 refine Ab ?_
 refine h13 _ ?_; clear h13
 refine Aa fun N14 h14 => ?_
 refine Al (fun hb15 => ?_) (fun hb15 => ?_)
 have hil : i < ts.length := by have := hb15; omega
 obtain ⟨z, hze⟩ := Cb (l := ts) (i := i) hil
 have hzd : ts.getD i [] = z := by rw [List.getD_eq_getElem?_getD, hze]; rfl
 have hzl := hsz z (AF hze)
 refine An ?_
 try simp only [Af]
 refine h14 _ ?_; clear h14
 refine Aa fun N16 h16 => ?_
 refine Aw ?_
 refine Aa fun N17 h17 => ?_
 have hx := And.intro @hze (And.intro @eT.eq_1 hx0)
 refine Ad ?_
 try refine Ac ?_
 refine Ae (hq := by exact Aq) ?_
 refine Au (hq := by exact Aq) ?_
 refine Ar (hq := by exact Aq) ?_
 iterate 2 refine Ae (hq := by exact Aq) ?_
 refine Ab ?_
 have hx := hx0
 refine h17 _ ?_; clear h17
 refine Aa fun N18 h18 => ?_
 refine Ad ?_
 try refine Ac ?_
 refine Ae (hq := by exact Aq) ?_
 refine Ar (hq := by exact Aq) ?_
 have hc := Ah (E := (JH.at_ 34)) (f := 32) (sp := Spec.pure Xk) rfl
 have hs := @Xk.eq_1
 refine BF (hq := by (first | ((first | exact ⟨trivial, hv, by omega⟩ | exact ⟨hv, by omega⟩ | ((repeat' apply And.intro) <;> first | rfl | exact hv | omega))) | exact Ay)) ?_
 refine Ab ?_
 refine h18 _ ?_; clear h18
 refine Al (fun hb19 => ?_) (fun hb19 => ?_)
 have hst := VZ hzd hb19
 refine Ad ?_
 try refine Ac ?_
 iterate 2 refine Ae (hq := by exact Aq) ?_
 refine GE (hq := by exact Aq) ?_
 refine Ij (hq := by exact Aq) ?_
 refine Ae (hq := by exact Aq) ?_
 refine Ab ?_
 refine h16 _ ?_; clear h16
 refine Ad ?_
 try refine Ac ?_
 refine Am (hq := by exact Aq) ?_
 refine Ae (hq := by exact Aq) ?_
 refine Ab ?_
 refine h12 _ ⟨i + 1, ?_, ?_, [some 0, some 1, some 4], ?_⟩
 dsimp only
 omega
 dsimp only
 omega
 dsimp only
 refine ⟨by rfl, ?_, ?_⟩
 refine Aj ?_
 ·(repeat' apply And.intro) <;> (first | (first | rfl | trivial | omega | exact Or.inl rfl | (rw [List.take_of_length_le (Nat.le_refl _), XD, hst]; done) | (rw [hst]; done) | (rw [hst]; simp; done)) | exact At)
 refine Aj ?_
 ·(repeat' apply And.intro) <;> (first | (first | rfl | trivial | omega | exact Or.inl rfl | (rw [List.take_of_length_le (Nat.le_refl _), XD, hst]; done) | (rw [hst]; done) | (rw [hst]; simp; done)) | exact At)
 have hst := WZ hzd (by have := hb19; simpa using this)
 refine An ?_
 try simp only [Af]
 refine h16 _ ?_; clear h16
 refine Ad ?_
 try refine Ac ?_
 refine Am (hq := by exact Aq) ?_
 refine Ae (hq := by exact Aq) ?_
 refine Ab ?_
 refine h12 _ ⟨i + 1, ?_, ?_, [some 0, some 1, some 2], ?_⟩
 dsimp only
 omega
 dsimp only
 omega
 dsimp only
 refine ⟨by rfl, ?_, ?_⟩
 refine Aj ?_
 ·(repeat' apply And.intro) <;> (first | (first | rfl | trivial | omega | exact Or.inl rfl | (rw [List.take_of_length_le (Nat.le_refl _), XD, hst]; done) | (rw [hst]; done) | (rw [hst]; simp; done)) | exact At)
 refine Aj ?_
 ·(repeat' apply And.intro) <;> (first | (first | rfl | trivial | omega | exact Or.inl rfl | (rw [List.take_of_length_le (Nat.le_refl _), XD, hst]; done) | (rw [hst]; done) | (rw [hst]; simp; done)) | exact At)
 obtain rfl : i = ts.length := by have := hb15; omega
 refine Be ?_
 simp only [Af, Nat.reduceEqDiff, reduceIte, eq_self]
 refine h10 _ ?_; clear h10
 refine Aa fun N20 h20 => ?_
 refine Ad ?_
 try refine Ac ?_
 refine Ae (hq := by exact Aq) ?_
 refine BC (hq := by exact Aq) ?_
 refine Ae (hq := by exact Aq) ?_
 refine A8 (hq := by exact Aq) ?_
 refine Ab ?_
 refine h20 _ ?_; clear h20
 refine Ao ?_
 try simp only [Af]
 rw [hr]
 refine A3 ?_
 ·(repeat' apply And.intro) <;> (first | (first | rfl | trivial | omega | (rw [List.take_of_length_le (by simp [rows])]; done) | (simp [rows]; done)) | exact At)
 cases hg

def Rh : Bo Tryz.prog := JH.add 10 (Spec.pure PQ) PS (by kernel_rfl)
end Go.Proofs.YtmbjnkgpcbpclaaGreat
