/- Walks, printed by wip/gen/walk.py. -/
import Derived.Test.YtiijkbidkdmilaaT45
import Derived.Test.YtiijkbidkdmilaaV5
set_option linter.all false
set_option maxRecDepth 100000
set_option maxHeartbeats 4000000
namespace Go.Proofs.Ytiijkbidkdmilaa
open Go Go.Vc Go.RowKit
/-- slices.Chunk. -/
def chunkG (f : Nat) : List AV → Option (Prop × AV)
  | [.d (.sl xs), .d (.int .i64 k)] => some (1 ≤ k, .clo (.func f) [.d (.ptr [.sl xs]), .d (.ptr [.int .i64 k])])
  | _ => none

theorem chunkU_meets : Meets Try.prog 26 (Spec.pure (chunkG 40)) := by
 refine meets_fun (E_step.at_ 9) Try.func26 rfl rfl rfl ?_
 intro args p r hg hp
 unfold chunkG at hg
 split at hg
 ·rename_i xs k
  simp only [Option.some.injEq, Prod.mk.injEq] at hg
  obtain ⟨rfl, rfl⟩ := hg
  have hT : (E_step).X = T := rfl
  have hx0 := @Try.results26
  have hx := hx0
  refine ⟨by rfl, ?_⟩
  intro F W0 hnp hmk
  refine vc_seq_k fun N1 h1 => ?_
  refine u_reg ?_
  try refine lg_mk ?_
  refine u_bx ?_
  refine u_bx ?_
  refine u_mv ?_
  refine lg_nil ?_
  refine h1 _ ?_; clear h1; try clear N1
  refine vc_seq_k fun N2 h2 => ?_
  refine vc_seq_k fun N3 h3 => ?_
  refine u_reg ?_
  try refine lg_mk ?_
  refine u_ld ?_
  refine u_bn ?_
  refine lg_nil ?_
  refine h3 _ ?_; clear h3; try clear N3
  refine u_cond (fun hb4 => ?_) (fun hb4 => ?_)
  ·first | omega | exact absurd trivial hb4 | contradiction | (simp_all; done)
  ·refine vc_skip ?_
   try simp only [k_rules]
   refine h2 _ ?_; clear h2; try clear N2
   refine vc_seq_k fun N5 h5 => ?_
   refine u_reg ?_
   try refine lg_mk ?_
   refine u_mf ?_
   refine u_mv ?_
   refine lg_nil ?_
   refine h5 _ ?_; clear h5; try clear N5
   refine vc_ret ?_
   try simp only [k_rules]
   refine fin2_ ?_
   exact cl_
 ·cases hg

def E_chunkU : Env Try.prog := E_step.add 26 (Spec.pure (chunkG 40)) chunkU_meets (by kernel_rfl)
end Go.Proofs.Ytiijkbidkdmilaa
