/- Walks, printed by wip/gen/walk.py. -/
import Derived.Test.YtiijkbidkdmilaaT40
import Derived.Test.YtiijkbidkdmilaaV5
set_option linter.all false
set_option maxRecDepth 100000
set_option maxHeartbeats 4000000
namespace Go.Proofs.Ytiijkbidkdmilaa
open Go Go.Vc Go.RowKit
theorem deleteI_meets : Meets Try.prog 41 (Spec.gen (deleteG 3)) := by
 refine meets_handed (E_putO.at_ 33) Try.func41 rfl rfl rfl ?_
 intro args bl p r bf hg hp
 unfold deleteG at hg
 split at hg
 ·rename_i len i j t s xs
  simp only [Option.some.injEq, Prod.mk.injEq] at hg
  obtain ⟨rfl, rfl, rfl⟩ := hg
  obtain ⟨rfl, rfl, hrx, rfl, h0, hij, hj, hlen⟩ := hp
  have hry : ∀ a b, Rect 1 ((xs.drop a).take b) := fun a b x hx => hrx x (List.mem_of_mem_drop (List.mem_of_mem_take hx))
  obtain ⟨i, rfl⟩ := Int.eq_ofNat_of_zero_le h0
  obtain ⟨j, rfl⟩ := Int.eq_ofNat_of_zero_le (by omega : 0 ≤ j)
  have hsl : (splice xs i ((xs.drop j).take (xs.length - j))).length = xs.length := by simp [splice]; omega
  have hl2 : ((xs.drop j).take (xs.length - j)).length = xs.length - j := by simp
  have hdr := delete_rows (xs := xs) (i := i) (j := j) (by omega) (by omega)
  have hT : (E_putO).X = T := rfl
  have hx0 := @Try.results41
  have hx := hx0
  refine ⟨Nat.le_of_ble_eq_true rfl, ?_⟩
  intro F W0 M0 hnp hmk
  have hnp : Far.np = 1 := hnp
  refine vc_seq_k fun N1 h1 => ?_
  refine u_reg ?_
  try refine lg_mk ?_
  refine u_mv ?_
  refine lg_nil ?_
  refine h1 _ ?_; clear h1; try clear N1
  refine vc_seq_k fun N2 h2 => ?_
  refine u_reg ?_
  try refine lg_mk ?_
  refine u_mv ?_
  refine u_mv ?_
  refine u_mv ?_
  refine u_mv ?_
  refine u_ln ?_
  refine lg_sem (by rfl) (sem_slice3n (by first | (simp only [wB, eq_self, Nat.reduceEqDiff, reduceIte]; done) | (simp only [wB, eq_self, Nat.reduceEqDiff, reduceIte]; rfl)) (by first | trivial | simp only [wB, eq_self, Nat.reduceEqDiff, reduceIte]) (by simp only [wB, eq_self, Nat.reduceEqDiff, reduceIte]; rfl) (by first | (simp only [wB, eq_self, Nat.reduceEqDiff, reduceIte, env_rules, tys, hT, tiAgg]; done) | (simp only [wB, eq_self, Nat.reduceEqDiff, reduceIte, env_rules, tys, hT, tiAgg]; rfl)) (by first | (simp only [wB, eq_self, Nat.reduceEqDiff, reduceIte, env_rules, tys, hT, tiAgg]; done) | (simp only [wB, eq_self, Nat.reduceEqDiff, reduceIte, env_rules, tys, hT, tiAgg]; rfl)) (by first | (simp only [wB, eq_self, Nat.reduceEqDiff, reduceIte]; done) | (simp only [wB, eq_self, Nat.reduceEqDiff, reduceIte]; rfl)) (by first | trivial | simp only [wB, eq_self, Nat.reduceEqDiff, reduceIte]) (by first | (simp only [wB, eq_self, Nat.reduceEqDiff, reduceIte]; done) | (simp only [wB, eq_self, Nat.reduceEqDiff, reduceIte]; rfl)) (by first | trivial | simp only [wB, eq_self, Nat.reduceEqDiff, reduceIte]) (by first | (simp only [wB, eq_self, Nat.reduceEqDiff, reduceIte]; done) | (simp only [wB, eq_self, Nat.reduceEqDiff, reduceIte]; rfl)) (by first | trivial | simp only [wB, eq_self, Nat.reduceEqDiff, reduceIte]) (by exact sd_) ?_)
  refine lg_nil ?_
  refine h2 _ ?_; clear h2; try clear N2
  refine vc_seq_k fun N3 h3 => ?_
  refine vc_seq_k fun N4 h4 => ?_
  refine u_reg ?_
  try refine lg_mk ?_
  refine u_mv ?_
  refine u_mv ?_
  refine u_bn ?_
  refine lg_nil ?_
  refine h4 _ ?_; clear h4; try clear N4
  refine u_cond (fun hb5 => ?_) (fun hb5 => ?_)
  ·first | omega | exact absurd trivial hb5 | contradiction | (simp_all; done)
  ·refine vc_skip ?_
   try simp only [k_rules]
   refine h3 _ ?_; clear h3; try clear N3
   refine vc_seq_k fun N6 h6 => ?_
   refine u_reg ?_
   try refine lg_mk ?_
   refine u_mv ?_
   refine u_ln ?_
   refine u_mv ?_
   refine lg_nil ?_
   refine h6 _ ?_; clear h6; try clear N6
   refine vc_seq_k fun N7 h7 => ?_
   refine u_reg ?_
   try refine lg_mk ?_
   refine u_mv ?_
   refine u_mv ?_
   refine u_sl ?_
   refine u_mv ?_
   refine u_mv ?_
   refine u_sl ?_
   refine lg_sem (by rfl) (sem_appendI (by first | (simp only [wB, eq_self, Nat.reduceEqDiff, reduceIte]; done) | (simp only [wB, eq_self, Nat.reduceEqDiff, reduceIte]; rfl)) (by first | trivial | simp only [wB, eq_self, Nat.reduceEqDiff, reduceIte]) (by simp only [wB, eq_self, Nat.reduceEqDiff, reduceIte]; rfl) (by first | (simp only [wB, eq_self, Nat.reduceEqDiff, reduceIte, env_rules, tys, hT, tiAgg]; done) | (simp only [wB, eq_self, Nat.reduceEqDiff, reduceIte, env_rules, tys, hT, tiAgg]; rfl)) (by first | (simp only [wB, eq_self, Nat.reduceEqDiff, reduceIte, env_rules, tys, hT, tiAgg]; done) | (simp only [wB, eq_self, Nat.reduceEqDiff, reduceIte, env_rules, tys, hT, tiAgg]; rfl)) rfl (by first | (simp only [wB, eq_self, Nat.reduceEqDiff, reduceIte]; done) | (simp only [wB, eq_self, Nat.reduceEqDiff, reduceIte]; rfl)) (by first | trivial | simp only [wB, eq_self, Nat.reduceEqDiff, reduceIte]) (by simp only [rowsSrc, wB, eq_self, Nat.reduceEqDiff, reduceIte, wL, Int.toNat_natCast, Int.reduceToNat, Nat.reduceAdd, Nat.reduceMul, Nat.reduceSub, Nat.reduceLeDiff, hx]; rfl) (by (first | (exact hry _ _) | exact sd_)) (by (first | (exact hry _ _) | exact sd_)) (by (first | (exact hry _ _) | exact sd_)) ?_)
   try simp only [wB, eq_self, Nat.reduceEqDiff, reduceIte, wL, Int.toNat_natCast, Int.reduceToNat, Nat.reduceAdd, Nat.reduceMul, Nat.reduceSub, Nat.reduceLeDiff, hx]
   refine u_mv ?_
   refine lg_nil ?_
   refine h7 _ ?_; clear h7; try clear N7
   refine vc_seq_k fun N8 h8 => ?_
   refine u_reg ?_
   try refine lg_mk ?_
   refine u_mv ?_
   refine u_mv ?_
   refine u_ln ?_
   refine u_mv ?_
   refine lg_sem (by rfl) (sem_sliceX (by first | (simp only [wB, eq_self, Nat.reduceEqDiff, reduceIte]; done) | (simp only [wB, eq_self, Nat.reduceEqDiff, reduceIte]; rfl)) (by first | trivial | simp only [wB, eq_self, Nat.reduceEqDiff, reduceIte]) (by simp only [wB, eq_self, Nat.reduceEqDiff, reduceIte]; rfl) (by first | (simp only [wB, eq_self, Nat.reduceEqDiff, reduceIte, env_rules, tys, hT, tiAgg]; done) | (simp only [wB, eq_self, Nat.reduceEqDiff, reduceIte, env_rules, tys, hT, tiAgg]; rfl)) (by first | (simp only [wB, eq_self, Nat.reduceEqDiff, reduceIte, env_rules, tys, hT, tiAgg]; done) | (simp only [wB, eq_self, Nat.reduceEqDiff, reduceIte, env_rules, tys, hT, tiAgg]; rfl)) rfl (by first | (simp only [wB, eq_self, Nat.reduceEqDiff, reduceIte]; done) | (simp only [wB, eq_self, Nat.reduceEqDiff, reduceIte]; rfl)) (by first | trivial | simp only [wB, eq_self, Nat.reduceEqDiff, reduceIte]) (by first | (simp only [wB, eq_self, Nat.reduceEqDiff, reduceIte]; done) | (simp only [wB, eq_self, Nat.reduceEqDiff, reduceIte]; rfl)) (by first | trivial | simp only [wB, eq_self, Nat.reduceEqDiff, reduceIte]) (by exact sd_) ?_)
   try simp only [wB, eq_self, Nat.reduceEqDiff, reduceIte, wL, Int.toNat_natCast, Int.reduceToNat, Nat.reduceAdd, Nat.reduceMul, Nat.reduceSub, Nat.reduceLeDiff, hx]
   refine lg_sem (by rfl) (sem_clear (by first | (simp only [wB, eq_self, Nat.reduceEqDiff, reduceIte]; done) | (simp only [wB, eq_self, Nat.reduceEqDiff, reduceIte]; rfl)) (by first | trivial | simp only [wB, eq_self, Nat.reduceEqDiff, reduceIte]) (by simp only [wB, eq_self, Nat.reduceEqDiff, reduceIte]; rfl) (by first | (simp only [wB, eq_self, Nat.reduceEqDiff, reduceIte, env_rules, tys, hT, tiAgg]; done) | (simp only [wB, eq_self, Nat.reduceEqDiff, reduceIte, env_rules, tys, hT, tiAgg]; rfl)) (by first | (simp only [wB, eq_self, Nat.reduceEqDiff, reduceIte, env_rules, tys, hT, tiAgg]; done) | (simp only [wB, eq_self, Nat.reduceEqDiff, reduceIte, env_rules, tys, hT, tiAgg]; rfl)) rfl ?_)
   try simp only [wB, eq_self, Nat.reduceEqDiff, reduceIte, wL, Int.toNat_natCast, Int.reduceToNat, Nat.reduceAdd, Nat.reduceMul, Nat.reduceSub, Nat.reduceLeDiff, hx]
   refine lg_nil ?_
   refine h8 _ ?_; clear h8; try clear N8
   refine vc_seq_k fun N9 h9 => ?_
   refine u_reg ?_
   try refine lg_mk ?_
   refine u_mv ?_
   refine u_mv ?_
   refine lg_nil ?_
   refine h9 _ ?_; clear h9; try clear N9
   refine vc_ret ?_
   try simp only [k_rules]
   refine fin_ ?_
   refine ⟨[some 0], by rfl, ?_, ?_⟩
   ·refine fin_ ?_
    (repeat' apply And.intro) <;> (first | (first | rfl | (rw [Nat.sub_zero, hl2]; exact hdr) | (rw [hl2]; omega) | trivial | omega) | exact cl_)
   ·refine fin_ ?_
    (repeat' apply And.intro) <;> (first | (first | rfl | (rw [Nat.sub_zero, hl2]; exact hdr) | (rw [hl2]; omega) | trivial | omega) | exact cl_)
 ·cases hg

def E_deleteI : Env Try.prog := E_putO.add 41 (Spec.gen (deleteG 3)) deleteI_meets (by kernel_rfl)
end Go.Proofs.Ytiijkbidkdmilaa
