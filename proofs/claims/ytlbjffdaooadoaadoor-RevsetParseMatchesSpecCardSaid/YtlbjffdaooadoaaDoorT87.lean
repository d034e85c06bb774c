/- Walks, printed by wip/gen/walk.py. -/
import Derived.Test.YtlbjffdaooadoaaDoorT86
import Derived.Test.YtlbjffdaooadoaaDoorV5
set_option linter.all false
set_option maxRecDepth 100000
set_option maxHeartbeats 4000000
namespace Go.Proofs.YtlbjffdaooadoaaDoor
open Go Go.Vc Go.RowKit
def qeqG : List AV → Option (Prop × AV)
  | [.agg [.d (.sl xs)], .agg [.d (.sl ys)]] => some (xs = rows eN (dN xs) ∧ (dN xs).length ≤ 9223372036854775807 ∧ ys = rows eN (dN ys) ∧ (dN ys).length ≤ 9223372036854775807, .d (.bool (decide (dN xs = dN ys))))
  | _ => none
theorem ne_atN {q p : List Nd} {i : Nat} {x y : Nd} (h1 : q[i]? = some x) (h2 : p[i]? = some y) (h : x ≠ y) : q ≠ p := by
  rintro rfl; rw [h1] at h2; exact h (Option.some.inj h2)

theorem qeq_meets : Meets Tryd.prog 19 (Spec.pure qeqG) := by
 refine meets_fun (E_prr.at_ 31) Tryd.func19 rfl rfl rfl ?_
 intro args p r hg hp
 unfold qeqG at hg
 split at hg
 rename_i xs ys
 simp only [Option.some.injEq, Prod.mk.injEq] at hg
 obtain ⟨rfl, rfl⟩ := hg
 obtain ⟨he, hl, he2, hl2⟩ := hp
 generalize dN xs = q at *
 generalize dN ys = p at *
 subst he he2
 have hT : (E_prr).X = T := rfl
 have hx0 := And.intro @rect_eN (And.intro @dN_rows (And.intro @dec_t (And.intro @dec_f @Tryd.results19)))
 have hx := hx0
 refine ⟨by rfl, ?_⟩
 intro F W0 hnp hmk
 refine vc_seq_k fun N1 h1 => ?_
 refine u_reg ?_
 try refine lg_mk ?_
 iterate 2 refine u_bx ?_
 refine u_mv ?_
 refine lg_nil ?_
 refine h1 _ ?_; clear h1; try clear N1
 refine vc_seq_k fun N2 h2 => ?_
 refine vc_seq_k fun N3 h3 => ?_
 refine u_reg ?_
 try refine lg_mk ?_
 refine u_pt ?_
 refine u_ld ?_
 refine u_ln ?_
 refine u_pt ?_
 refine u_ld ?_
 refine u_ln ?_
 refine u_bn ?_
 refine lg_nil ?_
 refine h3 _ ?_; clear h3; try clear N3
 refine u_cond (fun hb4 => ?_) (fun hb4 => ?_)
 refine vc_seq_k fun N5 h5 => ?_
 refine u_reg ?_
 try refine lg_mk ?_
 refine u_mv ?_
 refine lg_nil ?_
 refine h5 _ ?_; clear h5; try clear N5
 refine vc_ret ?_
 try simp only [k_rules]
 have hr : decide (q = p) = false := decide_eq_false (fun h => by have h9 := hb4; subst h; simp at h9)
 rw [hr]
 refine fin2_ ?_
 exact cl_
 refine vc_skip ?_
 try simp only [k_rules]
 refine h2 _ ?_; clear h2; try clear N2
 refine vc_seq_k fun N6 h6 => ?_
 refine vc_seq_k fun N7 h7 => ?_
 refine u_reg ?_
 try refine lg_mk ?_
 refine u_mv ?_
 refine lg_nil ?_
 refine h7 _ ?_; clear h7; try clear N7
 refine vc_block ?_
 refine vc_loop_mk (σ := Nat) (fun s => (fun i => q.length = p.length ∧ i ≤ q.length ∧ q.take i = p.take i) s)
  (fun s => (fun i => [(2, .ptr 0 0 0), (3, .ptr 1 0 0), (5, .d (.int .i64 (i : Nat)))]) s)
  (fun s => (fun i => [some (.one 24 [.d (.sl (rows eN q))]), some (.one 24 [.d (.sl (rows eN p))])]) s) (fun s => (fun i => q.length - i) s) hnp 0 ?_ [some 0, some 1] ?_ ?_
 dsimp only
 exact ⟨by have := hb4; (try simp at this); omega, by omega, rfl⟩
 dsimp only
 refine ⟨by rfl, ?_, ?_⟩
 refine fin_ ?_
 exact cl_
 refine fin_ ?_
 exact cl_
 rintro i hinv N8 h8
 dsimp only at hinv ⊢
 obtain ⟨i1, i2, i3⟩ := hinv
 refine vc_seq_k fun N9 h9 => ?_
 refine vc_seq_k fun N10 h10 => ?_
 refine u_reg ?_
 try refine lg_mk ?_
 refine u_mv ?_
 refine u_pt ?_
 refine u_ld ?_
 refine u_ln ?_
 refine u_bn ?_
 refine lg_nil ?_
 refine h10 _ ?_; clear h10; try clear N10
 refine u_cond (fun hb11 => ?_) (fun hb11 => ?_)
 obtain ⟨x, hxe⟩ := getE (l := q) (i := i) (by have := hb11; omega)
 obtain ⟨y, hye⟩ := getE (l := p) (i := i) (by have := hb11; omega)
 obtain ⟨a, b, c, d⟩ := x
 obtain ⟨a', b', c', d'⟩ := y
 refine vc_skip ?_
 try simp only [k_rules]
 refine h9 _ ?_; clear h9; try clear N9
 refine vc_seq_k fun N12 h12 => ?_
 refine vc_block ?_
 refine vc_seq_k fun N13 h13 => ?_
 have hx := And.intro @hxe (And.intro @hye (And.intro @eN.eq_1 hx0))
 refine u_reg ?_
 try refine lg_mk ?_
 refine u_pt ?_
 refine u_ld ?_
 refine u_mv ?_
 refine u_pt ?_
 refine u_ld ?_
 refine u_pt ?_
 refine u_ld ?_
 refine u_mv ?_
 refine u_pt ?_
 refine u_ld ?_
 refine u_bn ?_
 refine lg_nil ?_
 have hx := hx0
 refine h13 _ ?_; clear h13; try clear N13
 refine u_cond (fun hb14 => ?_) (fun hb14 => ?_)
 have hne : (⟨a, b, c, d⟩ : Nd) ≠ ⟨a', b', c', d'⟩ := by have h9 := hb14; intro he; simp only [Nd.mk.injEq] at he; obtain ⟨rfl, rfl, rfl, rfl⟩ := he; simp at h9
 refine vc_seq_k fun N15 h15 => ?_
 refine u_reg ?_
 try refine lg_mk ?_
 refine u_mv ?_
 refine lg_nil ?_
 refine h15 _ ?_; clear h15; try clear N15
 refine vc_ret ?_
 try simp only [k_rules]
 have hr : decide (q = p) = false := decide_eq_false (ne_atN hxe hye hne)
 rw [hr]
 refine fin2_ ?_
 exact cl_
 have heq : (⟨a, b, c, d⟩ : Nd) = ⟨a', b', c', d'⟩ := by have h9 := hb14; simpa using h9
 refine vc_skip ?_
 try simp only [k_rules]
 refine h12 _ ?_; clear h12; try clear N12
 refine u_reg ?_
 try refine lg_mk ?_
 refine u_mv ?_
 refine u_bn ?_
 refine u_mv ?_
 refine lg_nil ?_
 refine h8 _ ⟨i + 1, ?_, ?_, [some 0, some 1], ?_⟩
 dsimp only
 refine ⟨i1, by omega, ?_⟩
 rw [heq] at hxe
 exact take_at hxe hye i3
 dsimp only
 omega
 dsimp only
 refine ⟨by rfl, ?_, ?_⟩
 refine fin_ ?_
 exact cl_
 refine fin_ ?_
 exact cl_
 refine vc_exit ?_
 simp only [k_rules, Nat.reduceEqDiff, reduceIte, eq_self]
 refine h6 _ ?_; clear h6; try clear N6
 refine vc_seq_k fun N16 h16 => ?_
 refine u_reg ?_
 try refine lg_mk ?_
 refine u_mv ?_
 refine lg_nil ?_
 refine h16 _ ?_; clear h16; try clear N16
 refine vc_ret ?_
 try simp only [k_rules]
 have hr : decide (q = p) = true := decide_eq_true (by rw [List.take_of_length_le (by omega), List.take_of_length_le (by omega)] at i3; exact i3)
 rw [hr]
 refine fin2_ ?_
 exact cl_
 cases hg

def E_qeq : Env Tryd.prog := E_prr.add 19 (Spec.pure qeqG) qeq_meets (by kernel_rfl)

def lawPG : List AV → Option (Prop × AV)
  | [.d (.str t)] => some (t.length ≤ 9223372036854775807, .d (.bool true))
  | _ => none
theorem pars_len (t : Bs) : (parsQ t).2.2.length ≤ 40 := by
  unfold parsQ
  split
  · exact Nat.zero_le _
  · split
    · exact Nat.zero_le _
    · exact Nat.zero_le _
    · split
      · exact Nat.zero_le _
      · split
        · exact Nat.zero_le _
        · rename_i h; exact Nat.le_of_not_lt h

theorem lawP_meets : Meets Tryd.prog 8 (Spec.pure lawPG) := by
 refine meets_fun (E_qeq.at_ 27) Tryd.func8 rfl rfl rfl ?_
 intro args p r hg hp
 unfold lawPG at hg
 split at hg
 rename_i t
 simp only [Option.some.injEq, Prod.mk.injEq] at hg
 obtain ⟨rfl, rfl⟩ := hg
 have htl := hp
 have hr40 := pars_len t
 have hT : (E_qeq).X = T := rfl
 have hx0 := And.intro @rect_eN (And.intro @dN_rows (And.intro @dec_t (And.intro @dec_f @Tryd.results8)))
 have hx := hx0
 refine ⟨by rfl, ?_⟩
 intro F W0 hnp hmk
 refine vc_seq_k fun N1 h1 => ?_
 refine u_reg ?_
 try refine lg_mk ?_
 refine u_mv ?_
 refine lg_nil ?_
 refine h1 _ ?_; clear h1; try clear N1
 refine vc_seq_k fun N2 h2 => ?_
 refine vc_seq_k fun N3 h3 => ?_
 refine u_reg ?_
 try refine lg_mk ?_
 have hc := call_rule (E := (E_qeq.at_ 27)) (f := 22) (sp := Spec.pure exG) rfl
 have hs := @exG.eq_1
 refine u_cp ?_
 refine u_un ?_
 refine lg_nil ?_
 refine h3 _ ?_; clear h3; try clear N3
 refine u_cond (fun hb4 => ?_) (fun hb4 => ?_)
 ·first | omega | exact absurd trivial hb4 | contradiction | (simp_all; done)
 refine vc_skip ?_
 try simp only [k_rules]
 refine h2 _ ?_; clear h2; try clear N2
 refine vc_seq_k fun N5 h5 => ?_
 refine u_reg ?_
 try refine lg_mk ?_
 refine u_mv ?_
 have hc := call_rule (E := (E_qeq.at_ 27)) (f := 29) (sp := Spec.pure parsG) rfl
 have hs := @parsG.eq_1
 refine u_hp ?_
 refine u_mv ?_
 iterate 2 refine u_ex ?_
 iterate 2 refine u_al ?_
 iterate 2 refine u_st ?_
 refine lg_nil ?_
 refine h5 _ ?_; clear h5; try clear N5
 refine vc_seq_k fun N6 h6 => ?_
 refine u_reg ?_
 try refine lg_mk ?_
 refine u_mv ?_
 have hc := call_rule (E := (E_qeq.at_ 27)) (f := 30) (sp := Spec.pure parsG) rfl
 have hs := @parsG.eq_1
 refine u_hp ?_
 refine u_mv ?_
 iterate 2 refine u_ex ?_
 iterate 2 refine u_al ?_
 iterate 2 refine u_st ?_
 refine lg_nil ?_
 refine h6 _ ?_; clear h6; try clear N6
 refine vc_seq_k fun N7 h7 => ?_
 refine u_reg ?_
 try refine lg_mk ?_
 refine u_ld (hq := by (first | ((repeat' apply And.intro) <;> first | rfl | omega) | exact sd_)) ?_
 refine u_ld (hq := by (first | ((repeat' apply And.intro) <;> first | rfl | omega) | exact sd_)) ?_
 refine u_bn (hq := by (first | ((repeat' apply And.intro) <;> first | rfl | omega) | exact sd_)) ?_
 refine u_mv (hq := by (first | ((repeat' apply And.intro) <;> first | rfl | omega) | exact sd_)) ?_
 refine s_ld (hq := by (intro hg; (try simp only [b_rules, bif_and, bif_or] at hg); (first | ((repeat' apply And.intro) <;> first | rfl | omega) | exact sd_))) ?_
 refine s_ld (hq := by (intro hg; (try simp only [b_rules, bif_and, bif_or] at hg); (first | ((repeat' apply And.intro) <;> first | rfl | omega) | exact sd_))) ?_
 have hc := call_rule (E := (E_qeq.at_ 27)) (f := 19) (sp := Spec.pure qeqG) rfl
 have hs := @qeqG.eq_1
 refine s_cp (hq := by (intro hg; (try simp only [b_rules, bif_and, bif_or] at hg); (first | ((repeat' apply And.intro) <;> first | rfl | omega) | exact sd_))) ?_
 refine u_pk (hq := by (first | ((repeat' apply And.intro) <;> first | rfl | omega) | exact sd_)) ?_
 refine u_mv (hq := by (first | ((repeat' apply And.intro) <;> first | rfl | omega) | exact sd_)) ?_
 refine lg_nil ?_
 refine h7 _ ?_; clear h7; try clear N7
 refine vc_ret ?_
 try simp only [k_rules]
 refine fin2_ ?_
 ·(repeat' apply And.intro) <;> (first | (first | rfl | trivial | (simp; done)) | exact cl_)
 cases hg
end Go.Proofs.YtlbjffdaooadoaaDoor
