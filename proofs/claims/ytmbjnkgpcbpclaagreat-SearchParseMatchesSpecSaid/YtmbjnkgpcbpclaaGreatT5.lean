/- Walks, printed by wip/gen/walk.py. -/
import Derived.Test.YtmbjnkgpcbpclaaGreatT4
import Derived.Test.YtmbjnkgpcbpclaaGreatV5
set_option linter.all false
set_option maxRecDepth 100000
set_option maxHeartbeats 4000000
namespace Go.Proofs.YtmbjnkgpcbpclaaGreat
open Go Go.Vc Go.RowKit
theorem ins_lb {l : List Int} {n : Int} (hs : l.Pairwise (· < ·)) (hn : n ∉ l) : ins l n = l.take (lbR l n) ++ n :: l.drop (lbR l n) := by
  have hle : lbR l n ≤ l.length := List.length_filter_le _ _
  have key : ∀ {l : List Int}, l.Pairwise (· < ·) → (∀ x ∈ l.take (lbR l n), x < n) ∧ ∀ x ∈ l.drop (lbR l n), n ≤ x := by
    intro l
    induction l with
    | nil => intro _; simp
    | cons a l ih =>
      intro hs
      obtain ⟨h1, h2⟩ := List.pairwise_cons.1 hs
      unfold lbR at *
      by_cases ha : a < n
      · rw [List.filter_cons_of_pos (by simpa using ha)]
        have := ih h2
        simp only [List.length_cons, List.take_succ_cons, List.drop_succ_cons]
        refine ⟨fun x hx => ?_, this.2⟩
        rcases List.mem_cons.1 hx with rfl | hx
        · exact ha
        · exact this.1 x hx
      · have h0 : (a :: l).filter (fun x => decide (x < n)) = [] := by
          rw [List.filter_eq_nil_iff]
          intro x hx
          rcases List.mem_cons.1 hx with rfl | hx
          · simpa using ha
          · have := h1 x hx; simp; omega
        rw [h0]
        refine ⟨by simp, fun x hx => ?_⟩
        rcases List.mem_cons.1 (by simpa using hx) with rfl | hx
        · omega
        · have := h1 x hx; omega
  obtain ⟨k1, k2⟩ := key hs
  refine ins_at hn k1 ?_
  rcases Nat.lt_or_ge (lbR l n) l.length with h | h
  · refine .inr ⟨l[lbR l n], List.getElem?_eq_getElem h, ?_⟩
    have := k2 l[lbR l n] (List.mem_of_getElem? (i := 0) (by rw [List.getElem?_drop]; simpa using List.getElem?_eq_getElem h))
    omega
  · exact .inl (by omega)
theorem lbR_le (l : List Int) (n : Int) : lbR l n ≤ l.length := List.length_filter_le _ _
def insOG : GFun
  | [.sl 0 0 n, .d (.int .i64 x)], [some (.vec t s xs)] => some (t = 3 ∧ s = 1 ∧ xs = rows eI (dI xs) ∧ n = (dI xs).length ∧ (dI xs).Pairwise (· < ·) ∧ (dI xs).length ≤ 1000000000, .sl 1 0 (ins (dI xs) x).length, [none, some (.vec 3 1 (rows eI (ins (dI xs) x)))])
  | [.d .nils, .d (.int .i64 x)], [] => some (True, .sl 0 0 1, [some (.vec 3 1 (rows eI [x]))])
  | _, _ => none

theorem insO_meets : Meets Tryz.prog 77 (Spec.gen insOG) := by
 refine meets_handed (E_find.at_ 20) Tryz.func77 rfl rfl rfl ?_
 intro args bl p r bf hg hp
 unfold insOG at hg
 split at hg
 rename_i n x t s xs
 simp only [Option.some.injEq, Prod.mk.injEq] at hg
 obtain ⟨rfl, rfl, rfl⟩ := hg
 obtain ⟨rfl, rfl, he, rfl, hso, hl⟩ := hp
 generalize dI xs = l at *
 subst he
 have hle := lbR_le l x
 have hT : (E_find).X = T := rfl
 have hx0 := @Tryz.results77
 have hx := hx0
 refine ⟨Nat.le_of_ble_eq_true rfl, ?_⟩
 intro F W0 M0 hnp hmk
 have hnp : Far.np = 1 := hnp
 refine vc_seq_k fun N1 h1 => ?_
 refine u_reg ?_
 try refine lg_mk ?_
 refine u_mv ?_
 refine lg_nil ?_
 refine h1 _ ?_; clear h1; try clear N1
 refine vc_seq_k fun N2 h2 => ?_
 have hx := And.intro @dI_rows hx0
 refine u_reg ?_
 try refine lg_mk ?_
 iterate 2 refine u_mv ?_
 have hc := call_rule (E := (E_find.at_ 20)) (f := 87) (sp := Spec.pure bsG) rfl
 have hs := @bsG.eq_1
 refine u_cp (hq := by (first | (exact ⟨by omega, by rw [List.take_length]; exact hso, by rw [List.take_length]; omega⟩) | exact sd_)) ?_
 refine u_mv ?_
 iterate 2 refine u_ex ?_
 iterate 2 refine u_mv ?_
 refine lg_nil ?_
 have hx := hx0
 simp only [List.take_length]
 refine h2 _ ?_; clear h2; try clear N2
 refine vc_seq_k fun N3 h3 => ?_
 refine vc_seq_k fun N4 h4 => ?_
 refine u_reg ?_
 try refine lg_mk ?_
 refine u_mv ?_
 refine lg_nil ?_
 refine h4 _ ?_; clear h4; try clear N4
 refine u_cond (fun hb5 => ?_) (fun hb5 => ?_)
 refine vc_seq_k fun N6 h6 => ?_
 refine vc_rebaseL 0 0 rfl (by decide) rfl rfl ?_
 simp only [kilL, List.cons_append, List.nil_append]
 refine u_reg ?_
 try refine lg_mk ?_
 iterate 2 refine u_mv ?_
 refine lg_nil ?_
 refine h6 _ ?_; clear h6; try clear N6
 refine vc_ret ?_
 try simp only [k_rules]
 have hm : x ∈ l := by simpa using hb5
 have hr : ins l x = l := by unfold ins; rw [if_pos hm]
 rw [hr]
 refine fin_ ?_
 refine ⟨[some 0, some 1], by rfl, ?_, ?_⟩
 refine fin_ ?_
 exact cl_
 refine fin_ ?_
 exact cl_
 refine vc_skip ?_
 try simp only [k_rules]
 refine h3 _ ?_; clear h3; try clear N3
 refine vc_seq_k fun N7 h7 => ?_
 refine u_reg ?_
 try refine lg_mk ?_
 iterate 3 refine u_mv ?_
 refine u_bs ?_
 have hc := call_rule (E := (E_find.at_ 20)) (f := 88) (sp := Spec.gen (insertG 3 1)) rfl
 have hs := And.intro @insertG.eq_1 @insertG.eq_2
 refine u_hg ?_
 refine u_mv ?_
 refine lg_nil ?_
 refine h7 _ ?_; clear h7; try clear N7
 refine vc_ret ?_
 try simp only [k_rules]
 have hm : x ∉ l := by simpa using hb5
 have hr := ins_lb hso hm
 have hr2 : (ins l x).length = l.length + 1 := by rw [hr]; simp; omega
 refine fin_ ?_
 refine ⟨[some 0, some 2], by rfl, ?_, ?_⟩
 refine fin_ ?_
 ·(repeat' apply And.intro) <;> (first | (first | rfl | (rw [hr2]; done) | (rw [hr]; simp [rows, eI]; done) | (simp; omega)) | exact cl_)
 refine fin_ ?_
 ·(repeat' apply And.intro) <;> (first | (first | rfl | (rw [hr2]; done) | (rw [hr]; simp [rows, eI]; done) | (simp; omega)) | exact cl_)
 rename_i x
 simp only [Option.some.injEq, Prod.mk.injEq] at hg
 obtain ⟨rfl, rfl, rfl⟩ := hg
 have hT : (E_find).X = T := rfl
 have hx0 := @Tryz.results77
 have hx := hx0
 refine ⟨Nat.le_of_ble_eq_true rfl, ?_⟩
 intro F W0 M0 hnp hmk
 have hnp : Far.np = 0 := hnp
 refine vc_seq_k fun N1 h1 => ?_
 refine u_reg ?_
 try refine lg_mk ?_
 refine u_mv ?_
 refine lg_nil ?_
 refine h1 _ ?_; clear h1; try clear N1
 refine vc_seq_k fun N2 h2 => ?_
 refine u_reg ?_
 try refine lg_mk ?_
 iterate 2 refine u_mv ?_
 have hc := call_rule (E := (E_find.at_ 20)) (f := 87) (sp := Spec.pure bsG) rfl
 have hs := @bsG.eq_1
 refine u_cp ?_
 refine u_mv ?_
 iterate 2 refine u_ex ?_
 iterate 2 refine u_mv ?_
 refine lg_nil ?_
 refine h2 _ ?_; clear h2; try clear N2
 refine vc_seq_k fun N3 h3 => ?_
 refine vc_seq_k fun N4 h4 => ?_
 refine u_reg ?_
 try refine lg_mk ?_
 refine u_mv ?_
 refine lg_nil ?_
 refine h4 _ ?_; clear h4; try clear N4
 refine u_cond (fun hb5 => ?_) (fun hb5 => ?_)
 exact absurd (show x ∈ ([] : List Int) from hb5) (by simp)
 refine vc_skip ?_
 try simp only [k_rules]
 refine h3 _ ?_; clear h3; try clear N3
 refine vc_seq_k fun N6 h6 => ?_
 refine u_reg ?_
 try refine lg_mk ?_
 iterate 3 refine u_mv ?_
 refine u_bs ?_
 have hs := And.intro @insertG.eq_1 @insertG.eq_2
 refine lg_sem (by rfl) (sem_callD [0] (f := 88) (sp := Spec.gen (insertG 3 1)) rfl (by simp only [map_rules, wB, eq_self, Nat.reduceEqDiff, reduceIte]; rfl)  (by simp only [wB, eq_self, Nat.reduceEqDiff, reduceIte, and_true]) (by simp only [wB, eq_self, Nat.reduceEqDiff, reduceIte, callS, rd_rules, pureL, cleanD, pure_rules, hs, sc_rules, heap_rules, wL, Int.toNat_natCast, Int.reduceToNat, Nat.reduceAdd, Nat.reduceMul, Nat.reduceSub, Nat.reduceLeDiff, List.mem_cons, List.not_mem_nil, dI_rows, dB_rows, dU_rows, hx, wG, Nat.reduceAdd, Nat.reduceSub, Nat.reduceLT, Nat.reduceLeDiff, if_true, if_false, ite_self, List.mem_append, true_implies, Option.bind_some, List.set_cons_zero, List.set_cons_succ, or_false, false_or]; rfl) (by first | trivial | ((try dsimp only); (first | (exact ⟨rfl, rfl, by intro y hy; simp at hy; subst hy; rfl, rfl, rfl⟩) | exact sd_))) (by simp only [wB, eq_self, Nat.reduceEqDiff, reduceIte, wG, heap_rules, Nat.reduceAdd, Nat.reduceSub, Nat.reduceLT, Nat.reduceLeDiff, kilL, List.cons_append, List.nil_append, List.mem_cons, List.not_mem_nil, or_false, false_or, wL, Int.toNat_natCast, Int.reduceToNat, Nat.reduceAdd, Nat.reduceMul, Nat.reduceSub, Nat.reduceLeDiff, hx]; rfl) ?_)
 simp only [wB, eq_self, Nat.reduceEqDiff, reduceIte, wG, heap_rules, Nat.reduceAdd, Nat.reduceSub, Nat.reduceLT, Nat.reduceLeDiff, kilL, List.cons_append, List.nil_append, List.mem_cons, List.not_mem_nil, or_false, false_or, wL, Int.toNat_natCast, Int.reduceToNat, Nat.reduceAdd, Nat.reduceMul, Nat.reduceSub, Nat.reduceLeDiff, hx]
 refine u_mv ?_
 refine lg_nil ?_
 refine h6 _ ?_; clear h6; try clear N6
 refine vc_ret ?_
 try simp only [k_rules]
 refine fin_ ?_
 refine ⟨[some 1], by rfl, ?_, ?_⟩
 refine fin_ ?_
 exact cl_
 refine fin_ ?_
 exact cl_
 cases hg

def E_insO : Env Tryz.prog := E_find.add 77 (Spec.gen insOG) insO_meets (by kernel_rfl)
end Go.Proofs.YtmbjnkgpcbpclaaGreat
