import Derived.Test.YtmbjnkgpcbpclaaGreatT4
set_option linter.all false
set_option maxRecDepth 100000
set_option maxHeartbeats 4000000
namespace Go.Proofs.YtmbjnkgpcbpclaaGreat
open Go Go.Vc Go.RowKit
theorem Y2 {l : List Int} {n : Int} (hs : l.Pairwise (· < ·)) (hn : n ∉ l) : Fh l n = l.take (SU l n) ++ n :: l.drop (SU l n) := by
  have hle : SU l n ≤ l.length := List.length_filter_le _ _
  have key : ∀ {l : List Int}, l.Pairwise (· < ·) → (∀ x ∈ l.take (SU l n), x < n) ∧ ∀ x ∈ l.drop (SU l n), n ≤ x := by
    intro l
    induction l with
    | nil => intro _; simp
    | cons a l ih =>
      intro hs
      obtain ⟨h1, h2⟩ := List.pairwise_cons.1 hs
      unfold SU at *
      by_cases ha : a < n
      · rw [List.filter_cons_of_pos (by simpa using ha)]
        have := ih h2
        simp only [List.length_cons, List.take_succ_cons, List.drop_succ_cons]
        refine ⟨fun x hx => ?_, this.2⟩
        rcases List.mem_cons.1 hx with rfl | hx
        · exact ha
        · exact this.1 x hx
      · have h0 : (a :: l).filter (fun x => decide (x < n)) = [] := by
          rw [List.filter_eq_nil_iff]
          intro x hx
          rcases List.mem_cons.1 hx with rfl | hx
          · simpa using ha
          · have := h1 x hx; simp; omega
        rw [h0]
        refine ⟨by simp, fun x hx => ?_⟩
        rcases List.mem_cons.1 (by simpa using hx) with rfl | hx
        · omega
        · have := h1 x hx; omega
  obtain ⟨k1, k2⟩ := key hs
  refine Dy hn k1 ?_
  rcases Nat.lt_or_ge (SU l n) l.length with h | h
  · refine .inr ⟨l[SU l n], List.getElem?_eq_getElem h, ?_⟩
    have := k2 l[SU l n] (List.mem_of_getElem? (i := 0) (by rw [List.getElem?_drop]; simpa using List.getElem?_eq_getElem h))
    omega
  · exact .inl (by omega)
theorem Y5 (l : List Int) (n : Int) : SU l n ≤ l.length := List.length_filter_le _ _
def CO : DP
  | [.sl 0 0 n, .d (.int .i64 x)], [some (.vec t s xs)] => some (t = 3 ∧ s = 1 ∧ xs = rows eI (dI xs) ∧ n = (dI xs).length ∧ (dI xs).Pairwise (· < ·) ∧ (dI xs).length ≤ 1000000000, .sl 1 0 (Fh (dI xs) x).length, [none, some (.vec 3 1 (rows eI (Fh (dI xs) x)))])
  | [.d .nils, .d (.int .i64 x)], [] => some (True, .sl 0 0 1, [some (.vec 3 1 (rows eI [x]))])
  | _, _ => none
theorem PS : A5 Tryz.prog 77 (Spec.gen CO) := by
 refine Bm (Hu.at_ 20) Tryz.func77 rfl rfl rfl ?_
 intro args bl p r bf hg hp
 unfold CO at hg
 split at hg
 rename_i n x t s xs
 simp only [Option.some.injEq, Prod.mk.injEq] at hg
 obtain ⟨rfl, rfl, rfl⟩ := hg
 obtain ⟨rfl, rfl, he, rfl, hso, hl⟩ := hp
 generalize dI xs = l at *
 subst he
 have hle := Y5 l x
 have hT : (Hu).X = T := rfl
 have hx0 := @Tryz.results77
 have hx := hx0
 refine ⟨Nat.le_of_ble_eq_true rfl, ?_⟩
 intro F W0 M0 hnp hmk
 have hnp : Bl.np = 1 := hnp
 refine Aa fun N1 h1 => Ac ?_
 refine Az ?_
 refine Ad ?_
 have hx := And.intro @AE hx0
 refine Ab (h1 _ (Aa fun N2 h2 => Ac ?_)); clear h1
 iterate 2 refine Ad ?_
 have hc := Ag (E := (Hu.at_ 20)) (f := 87) (sp := Spec.pure Yk) rfl
 have hs := @Yk.eq_1
 refine Ba (hq := by (first | (exact ⟨by omega, by rw [List.take_length]; exact hso, by rw [List.take_length]; omega⟩) | exact AQ)) ?_
 refine Ad ?_
 iterate 2 refine Dt ?_
 iterate 2 refine Ad ?_
 refine Ab ?_
 have hx := hx0
 simp only [List.take_length]
 refine h2 _ (Aa fun N3 h3 => ?_); clear h2
 refine Aa fun N4 h4 => Ac ?_
 refine Ad ?_
 refine Ab (h4 _ (Ak (fun hb5 => ?_) (fun hb5 => ?_))); clear h4
 refine Aa fun N6 h6 => ?_
 refine Gm 0 0 rfl (by decide) rfl rfl ?_
 simp only [Bk, List.cons_append, List.nil_append]
 refine Ac ?_
 iterate 2 refine Ad ?_
 refine Ab (h6 _ (Am ?_)); clear h6
 try simp only [Ae]
 have hm : x ∈ l := by simpa using hb5
 have hr : Fh l x = l := by unfold Fh; rw [if_pos hm]
 rw [hr]
 refine Aj ?_
 refine ⟨[some 0, some 1], by rfl, ?_, ?_⟩
 refine Aj ?_
 exact Au
 refine Aj ?_
 exact Au
 refine An ?_
 try simp only [Ae]
 refine h3 _ (Aa fun N7 h7 => Ac ?_); clear h3
 iterate 3 refine Ad ?_
 refine Di ?_
 have hc := Ag (E := (Hu.at_ 20)) (f := 88) (sp := Spec.gen (Ds 3 1)) rfl
 have hs := And.intro @Ds.eq_1 @Ds.eq_2
 refine BM ?_
 refine Ad ?_
 refine Ab (h7 _ (Am ?_)); clear h7
 try simp only [Ae]
 have hm : x ∉ l := by simpa using hb5
 have hr := Y2 hso hm
 have hr2 : (Fh l x).length = l.length + 1 := by rw [hr]; simp; omega
 refine Aj ?_
 refine ⟨[some 0, some 2], by rfl, ?_, ?_⟩
 refine Aj ?_
 ·(repeat' apply And.intro) <;> (first | (first | rfl | (rw [hr2]; done) | (rw [hr]; simp [rows, eI]; done) | (simp; omega)) | exact Au)
 refine Aj ?_
 ·(repeat' apply And.intro) <;> (first | (first | rfl | (rw [hr2]; done) | (rw [hr]; simp [rows, eI]; done) | (simp; omega)) | exact Au)
 rename_i x
 simp only [Option.some.injEq, Prod.mk.injEq] at hg
 obtain ⟨rfl, rfl, rfl⟩ := hg
 have hT : (Hu).X = T := rfl
 have hx0 := @Tryz.results77
 have hx := hx0
 refine ⟨Nat.le_of_ble_eq_true rfl, ?_⟩
 intro F W0 M0 hnp hmk
 have hnp : Bl.np = 0 := hnp
 refine Aa fun N1 h1 => Ac ?_
 refine Az ?_
 refine Ad ?_
 refine Ab (h1 _ (Aa fun N2 h2 => Ac ?_)); clear h1
 iterate 2 refine Ad ?_
 have hc := Ag (E := (Hu.at_ 20)) (f := 87) (sp := Spec.pure Yk) rfl
 have hs := @Yk.eq_1
 refine Ba ?_
 refine Ad ?_
 iterate 2 refine Dt ?_
 iterate 2 refine Ad ?_
 refine Ab (h2 _ (Aa fun N3 h3 => ?_)); clear h2
 refine Aa fun N4 h4 => Ac ?_
 refine Ad ?_
 refine Ab (h4 _ (Ak (fun hb5 => ?_) (fun hb5 => ?_))); clear h4
 exact absurd (show x ∈ ([] : List Int) from hb5) (by simp)
 refine An ?_
 try simp only [Ae]
 refine h3 _ (Aa fun N6 h6 => Ac ?_); clear h3
 iterate 3 refine Ad ?_
 refine Di ?_
 have hs := And.intro @Ds.eq_1 @Ds.eq_2
 refine AS (by rfl) (Tz [0] (f := 88) (sp := Spec.gen (Ds 3 1)) rfl (by simp only [AF, wB, eq_self, Nat.reduceEqDiff, reduceIte]; rfl)  (by simp only [wB, eq_self, Nat.reduceEqDiff, reduceIte, and_true]) (by simp only [wB, eq_self, Nat.reduceEqDiff, reduceIte, D5, CL, CK, Bi, BX, hs, CM, A2, wL, Int.toNat_natCast, Int.reduceToNat, Nat.reduceAdd, Nat.reduceMul, Nat.reduceSub, Nat.reduceLeDiff, List.mem_cons, List.not_mem_nil, AE, Dd, D0, hx, wG, Nat.reduceAdd, Nat.reduceSub, Nat.reduceLT, Nat.reduceLeDiff, if_true, if_false, ite_self, List.mem_append, true_implies, Option.bind_some, List.set_cons_zero, List.set_cons_succ, or_false, false_or]; rfl) (by first | trivial | ((try dsimp only); (first | (exact ⟨rfl, rfl, by intro y hy; simp at hy; subst hy; rfl, rfl, rfl⟩) | exact AQ))) (by simp only [wB, eq_self, Nat.reduceEqDiff, reduceIte, wG, A2, Nat.reduceAdd, Nat.reduceSub, Nat.reduceLT, Nat.reduceLeDiff, Bk, List.cons_append, List.nil_append, List.mem_cons, List.not_mem_nil, or_false, false_or, wL, Int.toNat_natCast, Int.reduceToNat, Nat.reduceAdd, Nat.reduceMul, Nat.reduceSub, Nat.reduceLeDiff, hx]; rfl) ?_)
 simp only [wB, eq_self, Nat.reduceEqDiff, reduceIte, wG, A2, Nat.reduceAdd, Nat.reduceSub, Nat.reduceLT, Nat.reduceLeDiff, Bk, List.cons_append, List.nil_append, List.mem_cons, List.not_mem_nil, or_false, false_or, wL, Int.toNat_natCast, Int.reduceToNat, Nat.reduceAdd, Nat.reduceMul, Nat.reduceSub, Nat.reduceLeDiff, hx]
 refine Ad ?_
 refine Ab (h6 _ (Am ?_)); clear h6
 try simp only [Ae]
 refine Aj ?_
 refine ⟨[some 1], by rfl, ?_, ?_⟩
 refine Aj ?_
 exact Au
 refine Aj ?_
 exact Au
 cases hg
def I2 : Bq Tryz.prog := Hu.add 77 (Spec.gen CO) PS (by kernel_rfl)
