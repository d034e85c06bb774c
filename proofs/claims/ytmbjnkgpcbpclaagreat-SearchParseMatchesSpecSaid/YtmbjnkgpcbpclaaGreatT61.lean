/- Walks, printed by wip/gen/walk.py. -/
import Derived.Test.YtmbjnkgpcbpclaaGreatT60
import Derived.Test.YtmbjnkgpcbpclaaGreatV5
set_option linter.all false
set_option maxRecDepth 100000
set_option maxHeartbeats 4000000
namespace Go.Proofs.YtmbjnkgpcbpclaaGreat
open Go Go.Vc Go.RowKit
def slv (k : Int) : Int := if k = 3 then 0 else if k = 2 then 1 else 2
def sbi (k : Int) : Int := if k = 3 then 0 else if k = 2 then 1 else if k = 4 then 2 else -1
def slvG : List AV → Option (Prop × AV)
  | [.d (.int .i64 k)] => some (True, .d (.int .i64 (slv k)))
  | _ => none
def sbiG : List AV → Option (Prop × AV)
  | [.d (.int .i64 k)] => some (True, .d (.int .i64 (sbi k)))
  | _ => none
def sqeG : List AV → Option (Prop × AV)
  | [.agg [.d (.sl xs)], .agg [.d (.sl ys)]] => some (xs = rows eSn (dSn xs) ∧ (dSn xs).length ≤ 9223372036854775807 ∧ ys = rows eSn (dSn ys) ∧ (dSn ys).length ≤ 9223372036854775807, .d (.bool (decide (dSn xs = dSn ys))))
  | _ => none
theorem ne_atS {q p : List Sn} {i : Nat} {x y : Sn} (h1 : q[i]? = some x) (h2 : p[i]? = some y) (h : x ≠ y) : q ≠ p := by
  rintro rfl; rw [h1] at h2; exact h (Option.some.inj h2)
theorem take_atS {q p : List Sn} {i : Nat} {x : Sn} (h1 : q[i]? = some x) (h2 : p[i]? = some x) (h : q.take i = p.take i) : q.take (i + 1) = p.take (i + 1) := by
  rw [List.take_add_one, List.take_add_one, h1, h2, h]

theorem slv_meets : Meets Tryz.prog 66 (Spec.pure slvG) := by
 refine meets_fun (E_fnd.at_ 8) Tryz.func66 rfl rfl rfl ?_
 intro args p r hg hp
 unfold slvG at hg
 split at hg
 rename_i k
 simp only [Option.some.injEq, Prod.mk.injEq] at hg
 obtain ⟨rfl, rfl⟩ := hg
 have hT : (E_fnd).X = T := rfl
 have hx0 := @Tryz.results66
 have hx := hx0
 refine ⟨by rfl, ?_⟩
 intro F W0 hnp hmk
 refine vc_seq_k fun N1 h1 => ?_
 refine u_reg ?_
 try refine lg_mk ?_
 refine u_mv ?_
 refine lg_nil ?_
 refine h1 _ ?_; clear h1; try clear N1
 refine vc_seq_k fun N2 h2 => ?_
 refine vc_seq_k fun N3 h3 => ?_
 refine u_reg ?_
 try refine lg_mk ?_
 refine u_mv ?_
 refine lg_nil ?_
 refine h3 _ ?_; clear h3; try clear N3
 refine vc_block ?_
 refine vc_seq_k fun N4 h4 => ?_
 refine u_reg ?_
 try refine lg_mk ?_
 refine u_bn ?_
 refine u_mv ?_
 refine lg_nil ?_
 refine h4 _ ?_; clear h4; try clear N4
 refine u_cond (fun hb5 => ?_) (fun hb5 => ?_)
 refine vc_seq_k fun N6 h6 => ?_
 refine u_reg ?_
 try refine lg_mk ?_
 refine u_mv ?_
 refine lg_nil ?_
 refine h6 _ ?_; clear h6; try clear N6
 refine vc_ret ?_
 try simp only [k_rules]
 have hr : slv k = 0 := by
  unfold slv; rw [if_pos (by have := hb5; (try simp at this); omega)]
 rw [hr]
 refine fin2_ ?_
 exact cl_
 refine vc_seq_k fun N7 h7 => ?_
 refine u_reg ?_
 try refine lg_mk ?_
 refine u_bn ?_
 refine u_mv ?_
 refine lg_nil ?_
 refine h7 _ ?_; clear h7; try clear N7
 refine u_cond (fun hb8 => ?_) (fun hb8 => ?_)
 refine vc_seq_k fun N9 h9 => ?_
 refine u_reg ?_
 try refine lg_mk ?_
 refine u_mv ?_
 refine lg_nil ?_
 refine h9 _ ?_; clear h9; try clear N9
 refine vc_ret ?_
 try simp only [k_rules]
 have hr : slv k = 1 := by
  unfold slv; rw [if_neg (by have := hb5; (try simp at this); omega), if_pos (by have := hb8; (try simp at this); omega)]
 rw [hr]
 refine fin2_ ?_
 exact cl_
 refine vc_skip ?_
 try simp only [k_rules]
 refine h2 _ ?_; clear h2; try clear N2
 refine vc_seq_k fun N10 h10 => ?_
 refine u_reg ?_
 try refine lg_mk ?_
 refine u_mv ?_
 refine lg_nil ?_
 refine h10 _ ?_; clear h10; try clear N10
 refine vc_ret ?_
 try simp only [k_rules]
 have hr : slv k = 2 := by
  unfold slv; rw [if_neg (by have := hb5; (try simp at this); omega), if_neg (by have := hb8; (try simp at this); omega)]
 rw [hr]
 refine fin2_ ?_
 exact cl_
 cases hg

def E_slv : Env Tryz.prog := E_fnd.add 66 (Spec.pure slvG) slv_meets (by kernel_rfl)

theorem sbi_meets : Meets Tryz.prog 46 (Spec.pure sbiG) := by
 refine meets_fun (E_slv.at_ 10) Tryz.func46 rfl rfl rfl ?_
 intro args p r hg hp
 unfold sbiG at hg
 split at hg
 rename_i k
 simp only [Option.some.injEq, Prod.mk.injEq] at hg
 obtain ⟨rfl, rfl⟩ := hg
 have hT : (E_slv).X = T := rfl
 have hx0 := @Tryz.results46
 have hx := hx0
 refine ⟨by rfl, ?_⟩
 intro F W0 hnp hmk
 refine vc_seq_k fun N1 h1 => ?_
 refine u_reg ?_
 try refine lg_mk ?_
 refine u_mv ?_
 refine lg_nil ?_
 refine h1 _ ?_; clear h1; try clear N1
 refine vc_seq_k fun N2 h2 => ?_
 refine vc_seq_k fun N3 h3 => ?_
 refine u_reg ?_
 try refine lg_mk ?_
 refine u_mv ?_
 refine lg_nil ?_
 refine h3 _ ?_; clear h3; try clear N3
 refine vc_block ?_
 refine vc_seq_k fun N4 h4 => ?_
 refine u_reg ?_
 try refine lg_mk ?_
 refine u_bn ?_
 refine u_mv ?_
 refine lg_nil ?_
 refine h4 _ ?_; clear h4; try clear N4
 refine u_cond (fun hb5 => ?_) (fun hb5 => ?_)
 refine vc_seq_k fun N6 h6 => ?_
 refine u_reg ?_
 try refine lg_mk ?_
 refine u_mv ?_
 refine lg_nil ?_
 refine h6 _ ?_; clear h6; try clear N6
 refine vc_ret ?_
 try simp only [k_rules]
 have hr : sbi k = 0 := by
  unfold sbi; rw [if_pos (by have := hb5; (try simp at this); omega)]
 rw [hr]
 refine fin2_ ?_
 exact cl_
 refine vc_seq_k fun N7 h7 => ?_
 refine u_reg ?_
 try refine lg_mk ?_
 refine u_bn ?_
 refine u_mv ?_
 refine lg_nil ?_
 refine h7 _ ?_; clear h7; try clear N7
 refine u_cond (fun hb8 => ?_) (fun hb8 => ?_)
 refine vc_seq_k fun N9 h9 => ?_
 refine u_reg ?_
 try refine lg_mk ?_
 refine u_mv ?_
 refine lg_nil ?_
 refine h9 _ ?_; clear h9; try clear N9
 refine vc_ret ?_
 try simp only [k_rules]
 have hr : sbi k = 1 := by
  unfold sbi; rw [if_neg (by have := hb5; (try simp at this); omega), if_pos (by have := hb8; (try simp at this); omega)]
 rw [hr]
 refine fin2_ ?_
 exact cl_
 refine vc_seq_k fun N10 h10 => ?_
 refine u_reg ?_
 try refine lg_mk ?_
 refine u_bn ?_
 refine u_mv ?_
 refine lg_nil ?_
 refine h10 _ ?_; clear h10; try clear N10
 refine u_cond (fun hb11 => ?_) (fun hb11 => ?_)
 refine vc_seq_k fun N12 h12 => ?_
 refine u_reg ?_
 try refine lg_mk ?_
 refine u_mv ?_
 refine lg_nil ?_
 refine h12 _ ?_; clear h12; try clear N12
 refine vc_ret ?_
 try simp only [k_rules]
 have hr : sbi k = 2 := by
  unfold sbi; rw [if_neg (by have := hb5; (try simp at this); omega), if_neg (by have := hb8; (try simp at this); omega), if_pos (by have := hb11; (try simp at this); omega)]
 rw [hr]
 refine fin2_ ?_
 exact cl_
 refine vc_skip ?_
 try simp only [k_rules]
 refine h2 _ ?_; clear h2; try clear N2
 refine vc_seq_k fun N13 h13 => ?_
 refine u_reg ?_
 try refine lg_mk ?_
 refine u_mv ?_
 refine lg_nil ?_
 refine h13 _ ?_; clear h13; try clear N13
 refine vc_ret ?_
 try simp only [k_rules]
 have hr : sbi k = -1 := by
  unfold sbi; rw [if_neg (by have := hb5; (try simp at this); omega), if_neg (by have := hb8; (try simp at this); omega), if_neg (by have := hb11; (try simp at this); omega)]
 rw [hr]
 refine fin2_ ?_
 exact cl_
 cases hg

def E_sbi : Env Tryz.prog := E_slv.add 46 (Spec.pure sbiG) sbi_meets (by kernel_rfl)

theorem sqe_meets : Meets Tryz.prog 18 (Spec.pure sqeG) := by
 refine meets_fun (E_sbi.at_ 31) Tryz.func18 rfl rfl rfl ?_
 intro args p r hg hp
 unfold sqeG at hg
 split at hg
 rename_i xs ys
 simp only [Option.some.injEq, Prod.mk.injEq] at hg
 obtain ⟨rfl, rfl⟩ := hg
 obtain ⟨he, hl, he2, hl2⟩ := hp
 generalize dSn xs = q at *
 generalize dSn ys = p at *
 subst he he2
 have hT : (E_sbi).X = T := rfl
 have hx0 := And.intro @rect_eSn (And.intro @dSn_rows (And.intro @dec_t (And.intro @dec_f @Tryz.results18)))
 have hx := hx0
 refine ⟨by rfl, ?_⟩
 intro F W0 hnp hmk
 refine vc_seq_k fun N1 h1 => ?_
 refine u_reg ?_
 try refine lg_mk ?_
 iterate 2 refine u_bx ?_
 refine u_mv ?_
 refine lg_nil ?_
 refine h1 _ ?_; clear h1; try clear N1
 refine vc_seq_k fun N2 h2 => ?_
 refine vc_seq_k fun N3 h3 => ?_
 refine u_reg ?_
 try refine lg_mk ?_
 refine u_pt ?_
 refine u_ld ?_
 refine u_ln ?_
 refine u_pt ?_
 refine u_ld ?_
 refine u_ln ?_
 refine u_bn ?_
 refine lg_nil ?_
 refine h3 _ ?_; clear h3; try clear N3
 refine u_cond (fun hb4 => ?_) (fun hb4 => ?_)
 refine vc_seq_k fun N5 h5 => ?_
 refine u_reg ?_
 try refine lg_mk ?_
 refine u_mv ?_
 refine lg_nil ?_
 refine h5 _ ?_; clear h5; try clear N5
 refine vc_ret ?_
 try simp only [k_rules]
 have hr : decide (q = p) = false := decide_eq_false (fun h => by have h9 := hb4; subst h; simp at h9)
 rw [hr]
 refine fin2_ ?_
 exact cl_
 refine vc_skip ?_
 try simp only [k_rules]
 refine h2 _ ?_; clear h2; try clear N2
 refine vc_seq_k fun N6 h6 => ?_
 refine vc_seq_k fun N7 h7 => ?_
 refine u_reg ?_
 try refine lg_mk ?_
 refine u_mv ?_
 refine lg_nil ?_
 refine h7 _ ?_; clear h7; try clear N7
 refine vc_block ?_
 refine vc_loop_mk (σ := Nat) (fun s => (fun i => q.length = p.length ∧ i ≤ q.length ∧ q.take i = p.take i) s)
  (fun s => (fun i => [(2, .ptr 0 0 0), (3, .ptr 1 0 0), (5, .d (.int .i64 (i : Nat)))]) s)
  (fun s => (fun i => [some (.one 25 [.d (.sl (rows eSn q))]), some (.one 25 [.d (.sl (rows eSn p))])]) s) (fun s => (fun i => q.length - i) s) hnp 0 ?_ [some 0, some 1] ?_ ?_
 dsimp only
 exact ⟨by have := hb4; (try simp at this); omega, by omega, rfl⟩
 dsimp only
 refine ⟨by rfl, ?_, ?_⟩
 refine fin_ ?_
 exact cl_
 refine fin_ ?_
 exact cl_
 rintro i hinv N8 h8
 dsimp only at hinv ⊢
 obtain ⟨i1, i2, i3⟩ := hinv
 refine vc_seq_k fun N9 h9 => ?_
 refine vc_seq_k fun N10 h10 => ?_
 refine u_reg ?_
 try refine lg_mk ?_
 refine u_mv ?_
 refine u_pt ?_
 refine u_ld ?_
 refine u_ln ?_
 refine u_bn ?_
 refine lg_nil ?_
 refine h10 _ ?_; clear h10; try clear N10
 refine u_cond (fun hb11 => ?_) (fun hb11 => ?_)
 obtain ⟨x, hxe⟩ := getE (l := q) (i := i) (by have := hb11; omega)
 obtain ⟨y, hye⟩ := getE (l := p) (i := i) (by have := hb11; omega)
 obtain ⟨a, b, c, d⟩ := x
 obtain ⟨a', b', c', d'⟩ := y
 refine vc_skip ?_
 try simp only [k_rules]
 refine h9 _ ?_; clear h9; try clear N9
 refine vc_seq_k fun N12 h12 => ?_
 refine vc_block ?_
 refine vc_seq_k fun N13 h13 => ?_
 have hx := And.intro @hxe (And.intro @hye (And.intro @eSn.eq_1 hx0))
 refine u_reg ?_
 try refine lg_mk ?_
 refine u_pt ?_
 refine u_ld ?_
 refine u_mv ?_
 refine u_pt ?_
 refine u_ld ?_
 refine u_pt ?_
 refine u_ld ?_
 refine u_mv ?_
 refine u_pt ?_
 refine u_ld ?_
 refine u_bn ?_
 refine lg_nil ?_
 have hx := hx0
 refine h13 _ ?_; clear h13; try clear N13
 refine u_cond (fun hb14 => ?_) (fun hb14 => ?_)
 have hne : (⟨a, b, c, d⟩ : Sn) ≠ ⟨a', b', c', d'⟩ := by have h9 := hb14; intro he; simp only [Sn.mk.injEq] at he; obtain ⟨rfl, rfl, rfl, rfl⟩ := he; simp at h9
 refine vc_seq_k fun N15 h15 => ?_
 refine u_reg ?_
 try refine lg_mk ?_
 refine u_mv ?_
 refine lg_nil ?_
 refine h15 _ ?_; clear h15; try clear N15
 refine vc_ret ?_
 try simp only [k_rules]
 have hr : decide (q = p) = false := decide_eq_false (ne_atS hxe hye hne)
 rw [hr]
 refine fin2_ ?_
 exact cl_
 have heq : (⟨a, b, c, d⟩ : Sn) = ⟨a', b', c', d'⟩ := by have h9 := hb14; simpa using h9
 refine vc_skip ?_
 try simp only [k_rules]
 refine h12 _ ?_; clear h12; try clear N12
 refine u_reg ?_
 try refine lg_mk ?_
 refine u_mv ?_
 refine u_bn ?_
 refine u_mv ?_
 refine lg_nil ?_
 refine h8 _ ⟨i + 1, ?_, ?_, [some 0, some 1], ?_⟩
 dsimp only
 refine ⟨i1, by omega, ?_⟩
 rw [heq] at hxe
 exact take_atS hxe hye i3
 dsimp only
 omega
 dsimp only
 refine ⟨by rfl, ?_, ?_⟩
 refine fin_ ?_
 exact cl_
 refine fin_ ?_
 exact cl_
 refine vc_exit ?_
 simp only [k_rules, Nat.reduceEqDiff, reduceIte, eq_self]
 refine h6 _ ?_; clear h6; try clear N6
 refine vc_seq_k fun N16 h16 => ?_
 refine u_reg ?_
 try refine lg_mk ?_
 refine u_mv ?_
 refine lg_nil ?_
 refine h16 _ ?_; clear h16; try clear N16
 refine vc_ret ?_
 try simp only [k_rules]
 have hr : decide (q = p) = true := decide_eq_true (by rw [List.take_of_length_le (by omega), List.take_of_length_le (by omega)] at i3; exact i3)
 rw [hr]
 refine fin2_ ?_
 exact cl_
 cases hg

def E_sqe : Env Tryz.prog := E_sbi.add 18 (Spec.pure sqeG) sqe_meets (by kernel_rfl)
end Go.Proofs.YtmbjnkgpcbpclaaGreat
