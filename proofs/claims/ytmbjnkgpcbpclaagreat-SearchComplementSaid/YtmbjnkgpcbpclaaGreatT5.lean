/- Walks, printed by wip/gen/walk.py. -/
import Derived.Test.YtmbjnkgpcbpclaaGreatT4
import Derived.Test.YtmbjnkgpcbpclaaGreatV5
set_option linter.all false
set_option maxRecDepth 100000
set_option maxHeartbeats 4000000
namespace Go.Proofs.YtmbjnkgpcbpclaaGreat
open Go Go.Vc Go.RowKit
theorem Wc {l : List Int} {n : Int} (hs : l.Pairwise (· < ·)) (hn : n ∉ l) : Hn l n = l.take (Qi l n) ++ n :: l.drop (Qi l n) := by
  have hle : Qi l n ≤ l.length := List.length_filter_le _ _
  have key : ∀ {l : List Int}, l.Pairwise (· < ·) → (∀ x ∈ l.take (Qi l n), x < n) ∧ ∀ x ∈ l.drop (Qi l n), n ≤ x := by
    intro l
    induction l with
    | nil => intro _; simp
    | cons a l ih =>
      intro hs
      obtain ⟨h1, h2⟩ := List.pairwise_cons.1 hs
      unfold Qi at *
      by_cases ha : a < n
      · rw [List.filter_cons_of_pos (by simpa using ha)]
        have := ih h2
        simp only [List.length_cons, List.take_succ_cons, List.drop_succ_cons]
        refine ⟨fun x hx => ?_, this.2⟩
        rcases List.mem_cons.1 hx with rfl | hx
        · exact ha
        · exact this.1 x hx
      · have h0 : (a :: l).filter (fun x => decide (x < n)) = [] := by
          rw [List.filter_eq_nil_iff]
          intro x hx
          rcases List.mem_cons.1 hx with rfl | hx
          · simpa using ha
          · have := h1 x hx; simp; omega
        rw [h0]
        refine ⟨by simp, fun x hx => ?_⟩
        rcases List.mem_cons.1 (by simpa using hx) with rfl | hx
        · omega
        · have := h1 x hx; omega
  obtain ⟨k1, k2⟩ := key hs
  refine Sc hn k1 ?_
  rcases Nat.lt_or_ge (Qi l n) l.length with h | h
  · refine .inr ⟨l[Qi l n], List.getElem?_eq_getElem h, ?_⟩
    have := k2 l[Qi l n] (List.mem_of_getElem? (i := 0) (by rw [List.getElem?_drop]; simpa using List.getElem?_eq_getElem h))
    omega
  · exact .inl (by omega)
theorem Wf (l : List Int) (n : Int) : Qi l n ≤ l.length := List.length_filter_le _ _
def Cj : Dr
  | [.sl 0 0 n, .d (.int .i64 x)], [some (.vec t s xs)] => some (t = 3 ∧ s = 1 ∧ xs = rows eI (dI xs) ∧ n = (dI xs).length ∧ (dI xs).Pairwise (· < ·) ∧ (dI xs).length ≤ 1000000000, .sl 1 0 (Hn (dI xs) x).length, [none, some (.vec 3 1 (rows eI (Hn (dI xs) x)))])
  | [.d .nils, .d (.int .i64 x)], [] => some (True, .sl 0 0 1, [some (.vec 3 1 (rows eI [x]))])
  | _, _ => none

theorem NI : A5 Tryz.prog 77 (Spec.gen Cj) := by
 refine Bt (G0.at_ 20) Tryz.func77 rfl rfl rfl ?_
 intro args bl p r bf hg hp
 unfold Cj at hg
 split at hg
 rename_i n x t s xs
 simp only [Option.some.injEq, Prod.mk.injEq] at hg
 obtain ⟨rfl, rfl, rfl⟩ := hg
 obtain ⟨rfl, rfl, he, rfl, hso, hl⟩ := hp
 generalize dI xs = l at *
 subst he
 have hle := Wf l x
 have hT : (G0).X = T := rfl
 have hx0 := @Tryz.results77
 have hx := hx0
 refine ⟨Nat.le_of_ble_eq_true rfl, ?_⟩
 intro F W0 M0 hnp hmk
 have hnp : AU.np = 1 := hnp
 refine Aa fun N1 h1 => ?_
 refine Ad ?_
 try refine Ac ?_
 refine Ae ?_
 refine Ab ?_
 refine h1 _ ?_; clear h1
 refine Aa fun N2 h2 => ?_
 have hx := And.intro @AJ hx0
 refine Ad ?_
 try refine Ac ?_
 iterate 2 refine Ae ?_
 have hc := Ah (E := (G0.at_ 20)) (f := 87) (sp := Spec.pure VI) rfl
 have hs := @VI.eq_1
 refine BF (hq := by (first | (exact ⟨by omega, by rw [List.take_length]; exact hso, by rw [List.take_length]; omega⟩) | exact Ay)) ?_
 refine Ae ?_
 iterate 2 refine DH ?_
 iterate 2 refine Ae ?_
 refine Ab ?_
 have hx := hx0
 simp only [List.take_length]
 refine h2 _ ?_; clear h2
 refine Aa fun N3 h3 => ?_
 refine Aa fun N4 h4 => ?_
 refine Ad ?_
 try refine Ac ?_
 refine Ae ?_
 refine Ab ?_
 refine h4 _ ?_; clear h4
 refine Al (fun hb5 => ?_) (fun hb5 => ?_)
 refine Aa fun N6 h6 => ?_
 refine GG 0 0 rfl (by decide) rfl rfl ?_
 simp only [AS, List.cons_append, List.nil_append]
 refine Ad ?_
 try refine Ac ?_
 iterate 2 refine Ae ?_
 refine Ab ?_
 refine h6 _ ?_; clear h6
 refine Ao ?_
 try simp only [Af]
 have hm : x ∈ l := by simpa using hb5
 have hr : Hn l x = l := by unfold Hn; rw [if_pos hm]
 rw [hr]
 refine Aj ?_
 refine ⟨[some 0, some 1], by rfl, ?_, ?_⟩
 refine Aj ?_
 exact At
 refine Aj ?_
 exact At
 refine An ?_
 try simp only [Af]
 refine h3 _ ?_; clear h3
 refine Aa fun N7 h7 => ?_
 refine Ad ?_
 try refine Ac ?_
 iterate 3 refine Ae ?_
 refine GE ?_
 have hc := Ah (E := (G0.at_ 20)) (f := 88) (sp := Spec.gen (CD 3 1)) rfl
 have hs := And.intro @CD.eq_1 @CD.eq_2
 refine BD ?_
 refine Ae ?_
 refine Ab ?_
 refine h7 _ ?_; clear h7
 refine Ao ?_
 try simp only [Af]
 have hm : x ∉ l := by simpa using hb5
 have hr := Wc hso hm
 have hr2 : (Hn l x).length = l.length + 1 := by rw [hr]; simp; omega
 refine Aj ?_
 refine ⟨[some 0, some 2], by rfl, ?_, ?_⟩
 refine Aj ?_
 ·(repeat' apply And.intro) <;> (first | (first | rfl | (rw [hr2]; done) | (rw [hr]; simp [rows, eI]; done) | (simp; omega)) | exact At)
 refine Aj ?_
 ·(repeat' apply And.intro) <;> (first | (first | rfl | (rw [hr2]; done) | (rw [hr]; simp [rows, eI]; done) | (simp; omega)) | exact At)
 rename_i x
 simp only [Option.some.injEq, Prod.mk.injEq] at hg
 obtain ⟨rfl, rfl, rfl⟩ := hg
 have hT : (G0).X = T := rfl
 have hx0 := @Tryz.results77
 have hx := hx0
 refine ⟨Nat.le_of_ble_eq_true rfl, ?_⟩
 intro F W0 M0 hnp hmk
 have hnp : AU.np = 0 := hnp
 refine Aa fun N1 h1 => ?_
 refine Ad ?_
 try refine Ac ?_
 refine Ae ?_
 refine Ab ?_
 refine h1 _ ?_; clear h1
 refine Aa fun N2 h2 => ?_
 refine Ad ?_
 try refine Ac ?_
 iterate 2 refine Ae ?_
 have hc := Ah (E := (G0.at_ 20)) (f := 87) (sp := Spec.pure VI) rfl
 have hs := @VI.eq_1
 refine BF ?_
 refine Ae ?_
 iterate 2 refine DH ?_
 iterate 2 refine Ae ?_
 refine Ab ?_
 refine h2 _ ?_; clear h2
 refine Aa fun N3 h3 => ?_
 refine Aa fun N4 h4 => ?_
 refine Ad ?_
 try refine Ac ?_
 refine Ae ?_
 refine Ab ?_
 refine h4 _ ?_; clear h4
 refine Al (fun hb5 => ?_) (fun hb5 => ?_)
 exact absurd (show x ∈ ([] : List Int) from hb5) (by simp)
 refine An ?_
 try simp only [Af]
 refine h3 _ ?_; clear h3
 refine Aa fun N6 h6 => ?_
 refine Ad ?_
 try refine Ac ?_
 iterate 3 refine Ae ?_
 refine GE ?_
 have hs := And.intro @CD.eq_1 @CD.eq_2
 refine AE (by rfl) (QE [0] (f := 88) (sp := Spec.gen (CD 3 1)) rfl (by simp only [A6, wB, eq_self, Nat.reduceEqDiff, reduceIte]; rfl)  (by simp only [wB, eq_self, Nat.reduceEqDiff, reduceIte, and_true]) (by simp only [wB, eq_self, Nat.reduceEqDiff, reduceIte, CM, Ch, Cg, AR, BA, hs, Ci, Ax, wL, Int.toNat_natCast, Int.reduceToNat, Nat.reduceAdd, Nat.reduceMul, Nat.reduceSub, Nat.reduceLeDiff, List.mem_cons, List.not_mem_nil, AJ, CB, CJ, hx, wG, Nat.reduceAdd, Nat.reduceSub, Nat.reduceLT, Nat.reduceLeDiff, if_true, if_false, ite_self, List.mem_append, true_implies, Option.bind_some, List.set_cons_zero, List.set_cons_succ, or_false, false_or]; rfl) (by first | trivial | ((try dsimp only); (first | (exact ⟨rfl, rfl, by intro y hy; simp at hy; subst hy; rfl, rfl, rfl⟩) | exact Ay))) (by simp only [wB, eq_self, Nat.reduceEqDiff, reduceIte, wG, Ax, Nat.reduceAdd, Nat.reduceSub, Nat.reduceLT, Nat.reduceLeDiff, AS, List.cons_append, List.nil_append, List.mem_cons, List.not_mem_nil, or_false, false_or, wL, Int.toNat_natCast, Int.reduceToNat, Nat.reduceAdd, Nat.reduceMul, Nat.reduceSub, Nat.reduceLeDiff, hx]; rfl) ?_)
 simp only [wB, eq_self, Nat.reduceEqDiff, reduceIte, wG, Ax, Nat.reduceAdd, Nat.reduceSub, Nat.reduceLT, Nat.reduceLeDiff, AS, List.cons_append, List.nil_append, List.mem_cons, List.not_mem_nil, or_false, false_or, wL, Int.toNat_natCast, Int.reduceToNat, Nat.reduceAdd, Nat.reduceMul, Nat.reduceSub, Nat.reduceLeDiff, hx]
 refine Ae ?_
 refine Ab ?_
 refine h6 _ ?_; clear h6
 refine Ao ?_
 try simp only [Af]
 refine Aj ?_
 refine ⟨[some 1], by rfl, ?_, ?_⟩
 refine Aj ?_
 exact At
 refine Aj ?_
 exact At
 cases hg

def Hp : Bo Tryz.prog := G0.add 77 (Spec.gen Cj) NI (by kernel_rfl)
end Go.Proofs.YtmbjnkgpcbpclaaGreat
