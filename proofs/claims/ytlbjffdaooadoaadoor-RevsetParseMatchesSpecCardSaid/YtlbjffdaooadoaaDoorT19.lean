/- Walks, printed by wip/gen/walk.py. -/
import Derived.Test.YtlbjffdaooadoaaDoorT17
import Derived.Test.YtlbjffdaooadoaaDoorV5
set_option linter.all false
set_option maxRecDepth 100000
set_option maxHeartbeats 4000000
namespace Go.Proofs.YtlbjffdaooadoaaDoor
open Go Go.Vc Go.RowKit
def inB (lo hi : Int) (b : UInt8) : Bool := decide (lo ≤ (b.toNat : Int)) && decide ((b.toNat : Int) ≤ hi)
def runN (s : List UInt8) (lo hi : Int) (n : Nat) : Nat := n + ((s.drop n).takeWhile (inB lo hi)).length
theorem drop_at {s : List UInt8} {i : Nat} {x : UInt8} (h : s[i]? = some x) : s.drop i = x :: s.drop (i + 1) := by
  obtain ⟨h1, rfl⟩ := List.getElem?_eq_some_iff.1 h
  exact List.drop_eq_getElem_cons h1
theorem runs_in {s : List UInt8} {lo hi : Int} {i : Nat} {x : UInt8} (h : s[i]? = some x) (hx : inB lo hi x = true) : runN s lo hi (i + 1) = runN s lo hi i := by
  unfold runN; rw [drop_at h, List.takeWhile_cons, if_pos hx, List.length_cons]; omega
theorem run_out {s : List UInt8} {lo hi : Int} {i : Nat} {x : UInt8} (h : s[i]? = some x) (hx : inB lo hi x = false) : runN s lo hi i = i := by
  unfold runN; rw [drop_at h, List.takeWhile_cons, if_neg (by rw [hx]; simp)]; rfl
theorem run_end {s : List UInt8} {lo hi : Int} {i : Nat} (h : s.length ≤ i) : runN s lo hi i = i := by
  unfold runN; rw [List.drop_eq_nil_of_le h]; rfl
def runG : List AV → Option (Prop × AV)
  | [.d (.str s), .d (.int .i64 n), .d (.int .u8 lo), .d (.int .u8 hi)] => some (0 ≤ n ∧ n ≤ s.length ∧ s.length ≤ 1000000, .d (.int .i64 (runN s lo hi n.toNat : Nat)))
  | _ => none
theorem run_cases (s : List UInt8) (lo hi : Int) (i : Nat) (h : i ≤ s.length) : (i = s.length ∧ runN s lo hi i = i) ∨ ∃ x, s[i]? = some x ∧ i < s.length ∧ (((x.toNat : Int) < lo ∧ runN s lo hi i = i) ∨ (lo ≤ (x.toNat : Int) ∧ hi < (x.toNat : Int) ∧ runN s lo hi i = i) ∨ (lo ≤ (x.toNat : Int) ∧ (x.toNat : Int) ≤ hi ∧ runN s lo hi (i + 1) = runN s lo hi i)) := by
  by_cases he : i = s.length
  · exact .inl ⟨he, run_end (by omega)⟩
  · obtain ⟨x, hx⟩ := getE (l := s) (i := i) (by omega)
    refine .inr ⟨x, hx, by omega, ?_⟩
    by_cases h1 : lo ≤ (x.toNat : Int)
    · by_cases h2 : (x.toNat : Int) ≤ hi
      · exact .inr (.inr ⟨h1, h2, runs_in hx (by unfold inB; rw [decide_eq_true h1, decide_eq_true h2]; rfl)⟩)
      · exact .inr (.inl ⟨h1, by omega, run_out hx (by unfold inB; rw [decide_eq_false h2, Bool.and_false])⟩)
    · exact .inl ⟨by omega, run_out hx (by unfold inB; rw [decide_eq_false h1, Bool.false_and])⟩

theorem runq_meets : Meets Tryd.prog 76 (Spec.pure runG) := by
 refine meets_fun (E_relq.at_ 30) Tryd.func76 rfl rfl rfl ?_
 intro args p r hg hp
 unfold runG at hg
 split at hg
 rename_i z n lo hi
 simp only [Option.some.injEq, Prod.mk.injEq] at hg
 obtain ⟨rfl, rfl⟩ := hg
 obtain ⟨hn0, hn1, hl⟩ := hp
 obtain ⟨m, rfl⟩ := Int.eq_ofNat_of_zero_le hn0
 have hmt : ((m : Nat) : Int).toNat = m := rfl
 rw [hmt]
 have hT : (E_relq).X = T := rfl
 have hx0 := And.intro @dec_t (And.intro @dec_f @Tryd.results76)
 have hx := hx0
 refine ⟨by rfl, ?_⟩
 intro F W0 hnp hmk
 refine vc_seq_k fun N1 h1 => ?_
 refine u_reg ?_
 try refine lg_mk ?_
 refine u_mv ?_
 refine lg_nil ?_
 refine h1 _ ?_; clear h1; try clear N1
 refine vc_seq_k fun N2 h2 => ?_
 refine vc_block ?_
 refine vc_loop_mk (σ := Nat) (fun s => (fun i => i ≤ z.length ∧ runN z lo hi i = runN z lo hi m) s)
  (fun s => (fun i => [(0, .d (.str z)), (1, .d (.int .i64 (i : Nat))), (2, .d (.int .u8 lo)), (3, .d (.int .u8 hi))]) s)
  (fun s => (fun i => []) s) (fun s => (fun i => z.length - i) s) hnp m ?_ [] ?_ ?_
 dsimp only
 exact ⟨by omega, rfl⟩
 dsimp only
 refine ⟨by rfl, ?_, ?_⟩
 refine fin_ ?_
 exact cl_
 refine fin_ ?_
 exact cl_
 rintro i hinv N3 h3
 dsimp only at hinv ⊢
 obtain ⟨i1, i2⟩ := hinv
 refine vc_seq_k fun N4 h4 => ?_
 refine vc_seq_k fun N5 h5 => ?_
 rcases run_cases z lo hi i i1 with ⟨e1, e2⟩ | ⟨x, hxe, hil, ⟨e1, e2⟩ | ⟨e1, e2, e3⟩ | ⟨e1, e2, e3⟩⟩
 have f1 : ((i : Int) < (z.length : Int)) = False := eq_false (by omega)
 have f2 : True := trivial
 have f3 : True := trivial
 have hxx : True := trivial
 have hre := e2
 have hx := And.intro @f1 (And.intro @f2 (And.intro @f3 (And.intro @hxx hx0)))
 refine u_reg ?_
 try refine lg_mk ?_
 iterate 2 refine u_mv ?_
 refine u_ln ?_
 refine u_bn ?_
 refine u_mv ?_
 iterate 2 refine g_mv ?_
 refine g_pt ?_
 refine g_mv ?_
 refine g_bn ?_
 refine u_pk ?_
 refine u_mv ?_
 iterate 2 refine g_mv ?_
 refine g_pt ?_
 refine g_mv ?_
 refine g_bn ?_
 refine u_pk ?_
 refine lg_nil ?_
 have hx := hx0
 refine h5 _ ?_; clear h5; try clear N5
 refine u_cond (fun hb6 => ?_) (fun hb6 => ?_)
 ·first | omega | exact absurd trivial hb6 | contradiction | (simp_all; done)
 refine vc_exit ?_
 simp only [k_rules, Nat.reduceEqDiff, reduceIte, eq_self]
 refine h2 _ ?_; clear h2; try clear N2
 refine vc_seq_k fun N7 h7 => ?_
 refine u_reg ?_
 try refine lg_mk ?_
 iterate 2 refine u_mv ?_
 refine lg_nil ?_
 refine h7 _ ?_; clear h7; try clear N7
 refine vc_ret ?_
 try simp only [k_rules]
 rw [← i2, hre]
 refine fin2_ ?_
 exact cl_
 have f1 : ((i : Int) < (z.length : Int)) = True := eq_true (by omega)
 have f2 : (lo ≤ (x.toNat : Int)) = False := eq_false (by omega)
 have f3 : True := trivial
 have hxx := hxe
 have hre := e2
 have hx := And.intro @f1 (And.intro @f2 (And.intro @f3 (And.intro @hxx hx0)))
 refine u_reg ?_
 try refine lg_mk ?_
 iterate 2 refine u_mv ?_
 refine u_ln ?_
 refine u_bn ?_
 refine u_mv ?_
 iterate 2 refine g_mv ?_
 refine g_pt ?_
 refine g_mv ?_
 refine g_bn ?_
 refine u_pk ?_
 refine u_mv ?_
 iterate 2 refine g_mv ?_
 refine g_pt ?_
 refine g_mv ?_
 refine g_bn ?_
 refine u_pk ?_
 refine lg_nil ?_
 have hx := hx0
 refine h5 _ ?_; clear h5; try clear N5
 refine u_cond (fun hb8 => ?_) (fun hb8 => ?_)
 ·first | omega | exact absurd trivial hb8 | contradiction | (simp_all; done)
 refine vc_exit ?_
 simp only [k_rules, Nat.reduceEqDiff, reduceIte, eq_self]
 refine h2 _ ?_; clear h2; try clear N2
 refine vc_seq_k fun N9 h9 => ?_
 refine u_reg ?_
 try refine lg_mk ?_
 iterate 2 refine u_mv ?_
 refine lg_nil ?_
 refine h9 _ ?_; clear h9; try clear N9
 refine vc_ret ?_
 try simp only [k_rules]
 rw [← i2, hre]
 refine fin2_ ?_
 exact cl_
 have f1 : ((i : Int) < (z.length : Int)) = True := eq_true (by omega)
 have f2 : (lo ≤ (x.toNat : Int)) = True := eq_true e1
 have f3 : ((x.toNat : Int) ≤ hi) = False := eq_false (by omega)
 have hxx := hxe
 have hre := e3
 have hx := And.intro @f1 (And.intro @f2 (And.intro @f3 (And.intro @hxx hx0)))
 refine u_reg ?_
 try refine lg_mk ?_
 iterate 2 refine u_mv ?_
 refine u_ln ?_
 refine u_bn ?_
 refine u_mv ?_
 iterate 2 refine g_mv ?_
 refine g_pt ?_
 refine g_mv ?_
 refine g_bn ?_
 refine u_pk ?_
 refine u_mv ?_
 iterate 2 refine g_mv ?_
 refine g_pt ?_
 refine g_mv ?_
 refine g_bn ?_
 refine u_pk ?_
 refine lg_nil ?_
 have hx := hx0
 refine h5 _ ?_; clear h5; try clear N5
 refine u_cond (fun hb10 => ?_) (fun hb10 => ?_)
 ·first | omega | exact absurd trivial hb10 | contradiction | (simp_all; done)
 refine vc_exit ?_
 simp only [k_rules, Nat.reduceEqDiff, reduceIte, eq_self]
 refine h2 _ ?_; clear h2; try clear N2
 refine vc_seq_k fun N11 h11 => ?_
 refine u_reg ?_
 try refine lg_mk ?_
 iterate 2 refine u_mv ?_
 refine lg_nil ?_
 refine h11 _ ?_; clear h11; try clear N11
 refine vc_ret ?_
 try simp only [k_rules]
 rw [← i2, hre]
 refine fin2_ ?_
 exact cl_
 have f1 : ((i : Int) < (z.length : Int)) = True := eq_true (by omega)
 have f2 : (lo ≤ (x.toNat : Int)) = True := eq_true e1
 have f3 : ((x.toNat : Int) ≤ hi) = True := eq_true e2
 have hxx := hxe
 have hre := e3
 have hx := And.intro @f1 (And.intro @f2 (And.intro @f3 (And.intro @hxx hx0)))
 refine u_reg ?_
 try refine lg_mk ?_
 iterate 2 refine u_mv ?_
 refine u_ln ?_
 refine u_bn ?_
 refine u_mv ?_
 iterate 2 refine g_mv ?_
 refine g_pt ?_
 refine g_mv ?_
 refine g_bn ?_
 refine u_pk ?_
 refine u_mv ?_
 iterate 2 refine g_mv ?_
 refine g_pt ?_
 refine g_mv ?_
 refine g_bn ?_
 refine u_pk ?_
 refine lg_nil ?_
 have hx := hx0
 refine h5 _ ?_; clear h5; try clear N5
 refine u_cond (fun hb12 => ?_) (fun hb12 => ?_)
 refine vc_skip ?_
 try simp only [k_rules]
 refine h4 _ ?_; clear h4; try clear N4
 refine vc_block ?_
 refine u_reg ?_
 try refine lg_mk ?_
 refine u_mv ?_
 refine u_bn ?_
 refine u_mv ?_
 refine lg_nil ?_
 refine h3 _ ⟨i + 1, ?_, ?_, [], ?_⟩
 dsimp only
 exact ⟨by omega, by rw [hre, i2]⟩
 dsimp only
 omega
 dsimp only
 refine ⟨by rfl, ?_, ?_⟩
 refine fin_ ?_
 exact cl_
 refine fin_ ?_
 exact cl_
 ·first | omega | exact absurd trivial hb12 | contradiction | (simp_all; done)
 cases hg

def E_runq : Env Tryd.prog := E_relq.add 76 (Spec.pure runG) runq_meets (by kernel_rfl)
end Go.Proofs.YtlbjffdaooadoaaDoor
