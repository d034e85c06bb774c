/- Walks, printed by wip/gen/walk.py. -/
import Derived.Test.YtmbjnkgpcbpclaaGreatT9
import Derived.Test.YtmbjnkgpcbpclaaGreatV5
set_option linter.all false
set_option maxRecDepth 100000
set_option maxHeartbeats 4000000
namespace Go.Proofs.YtmbjnkgpcbpclaaGreat
open Go Go.Vc Go.RowKit
def hasSub (s p : Bs) : Bool := (List.range (s.length + 1 - p.length)).any fun i => decide ((s.drop i).take p.length = p)
def conSG : List AV → Option (Prop × AV)
  | [.d (.str s), .d (.str p)] => some (s.length ≤ 1000000000 ∧ p.length ≤ 1000000000, .d (.bool (hasSub s p)))
  | _ => none
theorem hasSub_yes {s p : Bs} {i : Nat} (hi : i < s.length + 1 - p.length) (h : (s.drop i).take p.length = p) : hasSub s p = true := List.any_eq_true.2 ⟨i, List.mem_range.2 hi, decide_eq_true h⟩
theorem hasSub_no {s p : Bs} (h : ∀ j, j < s.length + 1 - p.length → (s.drop j).take p.length ≠ p) : hasSub s p = false := by
  unfold hasSub
  rw [Bool.eq_false_iff]; intro ha
  obtain ⟨i, hi, he⟩ := List.any_eq_true.1 ha
  exact h i (List.mem_range.1 hi) (of_decide_eq_true he)

theorem conS_meets : Meets Tryz.prog 36 (Spec.pure conSG) := by
 refine meets_fun (E_indexT.at_ 24) Tryz.func36 rfl rfl rfl ?_
 intro args p r hg hp
 unfold conSG at hg
 split at hg
 rename_i u p
 simp only [Option.some.injEq, Prod.mk.injEq] at hg
 obtain ⟨rfl, rfl⟩ := hg
 obtain ⟨hl1, hl2⟩ := hp
 have hT : (E_indexT).X = T := rfl
 have hx0 := @Tryz.results36
 have hx := hx0
 refine ⟨by rfl, ?_⟩
 intro F W0 hnp hmk
 refine vc_seq_k fun N1 h1 => ?_
 refine u_reg ?_
 try refine lg_mk ?_
 refine u_mv ?_
 refine lg_nil ?_
 refine h1 _ ?_; clear h1; try clear N1
 refine vc_seq_k fun N2 h2 => ?_
 refine vc_seq_k fun N3 h3 => ?_
 refine u_reg ?_
 try refine lg_mk ?_
 refine u_mv ?_
 refine lg_nil ?_
 refine h3 _ ?_; clear h3; try clear N3
 refine vc_block ?_
 refine vc_loop_mk (σ := Nat) (fun s => (fun i => i ≤ u.length + 1 - p.length ∧ ∀ j, j < i → (u.drop j).take p.length ≠ p) s)
  (fun s => (fun i => [(0, .d (.str u)), (1, .d (.str p)), (5, .d (.int .i64 (i : Nat)))]) s)
  (fun s => (fun i => []) s) (fun s => (fun i => u.length + 1 - i) s) hnp 0 ?_ [] ?_ ?_
 dsimp only
 exact ⟨by omega, fun j hj => by omega⟩
 dsimp only
 refine ⟨by rfl, ?_, ?_⟩
 refine fin_ ?_
 exact cl_
 refine fin_ ?_
 exact cl_
 rintro i hinv N4 h4
 dsimp only at hinv ⊢
 obtain ⟨i1, i2⟩ := hinv
 refine vc_seq_k fun N5 h5 => ?_
 refine vc_seq_k fun N6 h6 => ?_
 refine u_reg ?_
 try refine lg_mk ?_
 iterate 2 refine u_mv ?_
 refine u_ln ?_
 refine u_bn ?_
 refine u_mv ?_
 refine u_ln ?_
 refine u_bn ?_
 refine lg_nil ?_
 refine h6 _ ?_; clear h6; try clear N6
 refine u_cond (fun hb7 => ?_) (fun hb7 => ?_)
 have hgr : List.take (((i : Int) + (p.length : Int)).toNat - i) (u.drop i) = (u.drop i).take p.length := by congr 1; omega
 refine vc_skip ?_
 try simp only [k_rules]
 refine h5 _ ?_; clear h5; try clear N5
 refine vc_seq_k fun N8 h8 => ?_
 refine vc_block ?_
 refine vc_seq_k fun N9 h9 => ?_
 refine u_reg ?_
 try refine lg_mk ?_
 iterate 4 refine u_mv ?_
 refine u_ln ?_
 refine u_bn ?_
 refine u_sl ?_
 refine u_mv ?_
 refine u_bn ?_
 refine lg_nil ?_
 try simp only [hgr]
 refine h9 _ ?_; clear h9; try clear N9
 refine u_cond (fun hb10 => ?_) (fun hb10 => ?_)
 have he : (u.drop i).take p.length = p := by have := hb10; first | (rw [hgr] at this; exact this) | exact this
 refine vc_seq_k fun N11 h11 => ?_
 refine u_reg ?_
 try refine lg_mk ?_
 refine u_mv ?_
 refine lg_nil ?_
 refine h11 _ ?_; clear h11; try clear N11
 refine vc_ret ?_
 try simp only [k_rules]
 have hr := hasSub_yes (by omega) he
 rw [hr]
 refine fin2_ ?_
 exact cl_
 have he : (u.drop i).take p.length ≠ p := by have := hb10; first | (rw [hgr] at this; exact this) | exact this
 refine vc_skip ?_
 try simp only [k_rules]
 refine h8 _ ?_; clear h8; try clear N8
 refine u_reg ?_
 try refine lg_mk ?_
 refine u_mv ?_
 refine u_bn ?_
 refine u_mv ?_
 refine lg_nil ?_
 refine h4 _ ⟨i + 1, ?_, ?_, [], ?_⟩
 dsimp only
 refine ⟨by omega, fun j hj => ?_⟩
 rcases Nat.lt_or_ge j i with h | h
 exact i2 j h
 obtain rfl : j = i := by omega
 exact he
 dsimp only
 omega
 dsimp only
 refine ⟨by rfl, ?_, ?_⟩
 refine fin_ ?_
 exact cl_
 refine fin_ ?_
 exact cl_
 refine vc_exit ?_
 simp only [k_rules, Nat.reduceEqDiff, reduceIte, eq_self]
 refine h2 _ ?_; clear h2; try clear N2
 refine vc_seq_k fun N12 h12 => ?_
 refine u_reg ?_
 try refine lg_mk ?_
 refine u_mv ?_
 refine lg_nil ?_
 refine h12 _ ?_; clear h12; try clear N12
 refine vc_ret ?_
 try simp only [k_rules]
 have hr : hasSub u p = false := hasSub_no (fun j hj => i2 j (by have := hb7; omega))
 rw [hr]
 refine fin2_ ?_
 exact cl_
 cases hg

def E_conS : Env Tryz.prog := E_indexT.add 36 (Spec.pure conSG) conS_meets (by kernel_rfl)
end Go.Proofs.YtmbjnkgpcbpclaaGreat
