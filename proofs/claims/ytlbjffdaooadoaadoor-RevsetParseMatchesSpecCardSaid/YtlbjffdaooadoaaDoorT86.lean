/- Walks, printed by wip/gen/walk.py. -/
import Derived.Test.YtlbjffdaooadoaaDoorT85
import Derived.Test.YtlbjffdaooadoaaDoorV5
set_option linter.all false
set_option maxRecDepth 100000
set_option maxHeartbeats 40000000
namespace Go.Proofs.YtlbjffdaooadoaaDoor
open Go Go.Vc Go.RowKit
theorem prr_meets : Meets Tryd.prog 30 (Spec.pure parsG) := by
 refine meets_fun (E_tkn.at_ 426) Tryd.func30 rfl rfl rfl ?_
 intro args p r hg hp
 unfold parsG at hg
 split at hg
 rename_i t
 simp only [Option.some.injEq, Prod.mk.injEq] at hg
 obtain ⟨rfl, rfl⟩ := hg
 have htl := hp
 have hT : (E_tkn).X = T := rfl
 have hx0 := And.intro @dec_t (And.intro @dec_f (And.intro @rect_eN (And.intro @rect_eT (And.intro @rgB.eq_1 (And.intro @ilB.eq_1 (And.intro @nsB.eq_1 (And.intro @dN_rows (And.intro @dI_rows (And.intro @Int.toNat_natCast @Tryd.results30)))))))))
 have hx := hx0
 refine ⟨by rfl, ?_⟩
 intro F W0 hnp hmk
 refine vc_seq_k fun N1 h1 => ?_
 refine u_reg ?_
 try refine lg_mk ?_
 iterate 2 refine u_al (hq := by exact sq_) ?_
 refine lg_nil ?_
 refine h1 _ ?_; clear h1; try clear N1
 refine vc_seq_k fun N2 h2 => ?_
 refine vc_seq_k fun N3 h3 => ?_
 refine u_reg ?_
 try refine lg_mk ?_
 refine u_mv (hq := by exact sq_) ?_
 refine u_ln (hq := by exact sq_) ?_
 refine u_bn (hq := by exact sq_) ?_
 refine lg_nil ?_
 refine h3 _ ?_; clear h3; try clear N3
 refine u_cond (fun hb4 => ?_) (fun hb4 => ?_)
 refine vc_seq_k fun N5 h5 => ?_
 refine u_reg ?_
 try refine lg_mk ?_
 refine u_bd (hq := by exact sq_) ?_
 have hc := call_rule (E := (E_tkn.at_ 426)) (f := 26) (sp := Spec.pure faultG) rfl
 have hs := @faultG.eq_1
 refine u_cp (hq := by exact sq_) ?_
 iterate 2 refine u_st (hq := by exact sq_) ?_
 refine lg_nil ?_
 refine h5 _ ?_; clear h5; try clear N5
 refine vc_ret ?_
 try simp only [k_rules]
 have hr : parsQ t = (2, -1, []) := by unfold parsQ; rw [if_pos (by have := hb4; omega)]
 rw [hr]
 refine fin2_ ?_
 exact cl_
 have hl3 : t.length ≤ 300 := by have := hb4; omega
 obtain ⟨hp1, hp2⟩ := scnP_le (t := t) (e := 0) (by omega)
 obtain ⟨he1, he2⟩ := scnE_le (t := t) (p := scnP t 0) hp2
 have hw0 : wfS t ⟨scnP t 0, scnE t (scnP t 0), [], 0⟩ := ⟨he1, he2⟩
 have hsm := pF_tot (fuelN t) 0 _ (by omega) hw0 (by unfold fuelN; dsimp only; omega)
 have hL := okL_of (t := t) (by omega)
 obtain ⟨z, hz, hzp⟩ := ag_text (t := t) (by omega) hsm
 refine vc_skip ?_
 try simp only [k_rules]
 refine h2 _ ?_; clear h2; try clear N2
 refine vc_seq_k fun N6 h6 => ?_
 refine u_reg ?_
 try refine lg_mk ?_
 refine u_mv (hq := by exact sq_) ?_
 have hc := call_rule (E := (E_tkn.at_ 426)) (f := 59) (sp := Spec.pure tksG) rfl
 have hs := @tksG.eq_1
 refine u_hp (hq := by exact sq_) ?_
 refine u_bd (hq := by exact sq_) ?_
 refine u_bx (hq := by exact sq_) ?_
 refine u_mv (hq := by exact sq_) ?_
 refine lg_nil ?_
 refine h6 _ ?_; clear h6; try clear N6
 refine vc_seq_k fun N7 h7 => ?_
 generalize hLt : tksQ t = L at *
 refine vc_nil1 2 1 _ 4 (vec_nil 39 4) rfl rfl rfl ?_
 simp only [updL, List.set, List.cons_append, List.nil_append]
 refine vc_nil1 2 2 _ 1 (vec_nil 3 1) rfl rfl rfl ?_
 simp only [updL, List.set, List.cons_append, List.nil_append]
 refine vc_nil1 2 3 _ 1 (vec_nil 3 1) rfl rfl rfl ?_
 simp only [updL, List.set, List.cons_append, List.nil_append]
 refine u_reg ?_
 try refine lg_mk ?_
 refine u_mv (hq := by exact sq_) ?_
 refine lg_nil ?_
 refine h7 _ ?_; clear h7; try clear N7
 refine vc_seq_k fun N8 h8 => ?_
 refine vc_seq_k fun N9 h9 => ?_
 refine u_reg ?_
 try refine lg_mk ?_
 refine u_mv (hq := by exact sq_) ?_
 refine lg_nil ?_
 refine h9 _ ?_; clear h9; try clear N9
 refine vc_block ?_
 refine vc_loop_mk (σ := Nat × Mc × Bool × Int × Int) (fun s => (fun i m b c ix => prI L z i m b c ix ∧ i ≤ L.length + 4) (s.1) (s.2.1) (s.2.2.1) (s.2.2.2.1) (s.2.2.2.2))
  (fun s => (fun i m b c ix => [(2, .ptr 0 0 0), (3, .ptr 1 0 0), (4, .ptr 2 0 0), (5, .d (.bool b)), (6, .d (.int .i64 (i : Nat)))]) (s.1) (s.2.1) (s.2.2.1) (s.2.2.2.1) (s.2.2.2.2))
  (fun s => (fun i m b c ix => [some (.one 24 [.d .nils]), some (.one 27 [.d (.int .i64 0), .d (.int .i64 0)]), rgB (rows eT L) (.sl 3 0 m.ns.length) (.sl 4 0 m.rs.length) (.sl 5 0 m.ops.length) (c) (ix), nsB m, ilB m.rs, ilB m.ops]) (s.1) (s.2.1) (s.2.2.1) (s.2.2.2.1) (s.2.2.2.2)) (fun s => (fun i m b c ix => L.length - i) (s.1) (s.2.1) (s.2.2.1) (s.2.2.2.1) (s.2.2.2.2)) hnp (0, mc0, true, 0, 0) ?_ [some 0, some 1, some 2, some 3, some 4, some 5] ?_ ?_
 dsimp only
 exact ⟨.inl ⟨rfl, hz, ⟨Nat.le_refl _, rfl, fun k hk => by cases hk⟩⟩, by omega⟩
 dsimp only
 refine ⟨by rfl, ?_, ?_⟩
 refine fin_ ?_
 exact cl_
 refine fin_ ?_
 exact cl_
 rintro ⟨i, m, b, c, ix⟩ hinv N10 h10
 dsimp only at hinv ⊢
 obtain ⟨hI, hiL⟩ := hinv
 refine vc_seq_k fun N11 h11 => ?_
 refine vc_seq_k fun N12 h12 => ?_
 rcases (show (L.length ≤ i) ∨ (i < L.length ∧ c ≠ 0) ∨ (i < L.length ∧ c = 0) by omega) with g1 | ⟨g1, g2⟩ | ⟨g1, rfl⟩
 have f1 : ((i : Int) < (L.length : Int)) = False := eq_false (by omega)
 have f2 := True.intro
 have hx := And.intro @f1 (And.intro @f2 hx0)
 refine u_reg ?_
 try refine lg_mk ?_
 iterate 2 refine u_mv (hq := by exact sq_) ?_
 refine u_nl (hq := by exact sq_) ?_
 refine u_pt (hq := by exact sq_) ?_
 refine u_ld (hq := by exact sq_) ?_
 refine u_ln (hq := by exact sq_) ?_
 refine u_bn (hq := by exact sq_) ?_
 refine u_mv (hq := by exact sq_) ?_
 refine lg_g0 ?_ ?_
 focus (exact gt_)
 refine lg_g0 ?_ ?_
 focus (exact gt_)
 refine lg_g0 ?_ ?_
 focus (exact gt_)
 refine lg_g0 ?_ ?_
 focus (exact gt_)
 refine lg_g0 ?_ ?_
 focus (exact gt_)
 refine lg_g0 ?_ ?_
 focus (exact gt_)
 refine u_pk (hq := by exact sq_) ?_
 refine lg_nil ?_
 have hx := hx0
 refine h12 _ ?_; clear h12; try clear N12
 refine u_cond (fun hb13 => ?_) (fun hb13 => ?_)
 ·first | omega | exact absurd trivial hb13 | contradiction | (simp_all; done)
 refine vc_exit ?_
 simp only [k_rules, Nat.reduceEqDiff, reduceIte, eq_self]
 refine h8 _ ?_; clear h8; try clear N8
 refine vc_seq_k fun N14 h14 => ?_
 refine vc_seq_k fun N15 h15 => ?_
 refine u_reg ?_
 try refine lg_mk ?_
 refine u_mv (hq := by exact sq_) ?_
 refine u_nl (hq := by exact sq_) ?_
 iterate 2 refine u_pt (hq := by exact sq_) ?_
 refine u_ld (hq := by exact sq_) ?_
 refine u_bn (hq := by exact sq_) ?_
 refine lg_nil ?_
 refine h15 _ ?_; clear h15; try clear N15
 refine u_cond (fun hb16 => ?_) (fun hb16 => ?_)
 have hc0 : c ≠ 0 := by have := hb16; (try simp at this); omega
 obtain ⟨_, hz1, hz2⟩ := hI.resolve_left (fun h => hc0 h.1)
 refine vc_seq_k fun N17 h17 => ?_
 refine vc_regT [] (.seq [0, 1] (.alt 2 (.alt 3 (.alt 4 (.seq [5, 6] .nil) (.alt 5 (.seq [4, 6] .nil) .nil)) (.alt 5 (.seq [3, 4, 6] .nil) .nil)) (.alt 5 (.seq [2, 3, 4, 6] .nil) .nil))) hmix (by kernel_rfl) ?_
 refine at_seq ?_
 simp only [pick_rules, list_rules]
 try refine lg_mk ?_
 refine u_bd (hq := by exact sq_) ?_
 refine u_mv (hq := by exact sq_) ?_
 refine lg_nil ?_
 refine at_alt ?_ ?_
 simp only [pick_rules, list_rules]
 try refine lg_mk ?_
 refine u_nl (hq := by exact sq_) ?_
 refine lg_nil ?_
 refine at_alt ?_ ?_
 simp only [pick_rules, list_rules]
 try refine lg_mk ?_
 refine u_pt (hq := by exact sq_) ?_
 refine lg_nil ?_
 refine at_alt ?_ ?_
 simp only [pick_rules, list_rules]
 try refine lg_mk ?_
 refine u_ld (hq := by exact sq_) ?_
 refine lg_nil ?_
 refine at_seq ?_
 simp only [pick_rules, list_rules]
 try refine lg_mk ?_
 iterate 2 refine u_st (hq := by exact sq_) ?_
 refine lg_nil ?_
 refine at_nil ?_
 refine h17 _ ?_; clear h17; try clear N17
 refine vc_ret ?_
 try simp only [k_rules]
 have hr : parsQ t = (c, ix, []) := by rw [← hzp]; exact limR_c hc0 hz1 hz2
 rw [hr]
 refine fin2_ ?_
 exact cl_
 refine at_alt ?_ ?_
 simp only [pick_rules, list_rules]
 try refine lg_mk ?_
 refine u_st (hq := by exact sq_) ?_
 refine lg_nil ?_
 refine at_seq ?_
 simp only [pick_rules, list_rules]
 try refine lg_mk ?_
 refine u_ld (hq := by exact sq_) ?_
 refine u_st (hq := by exact sq_) ?_
 refine lg_nil ?_
 refine at_nil ?_
 refine h17 _ ?_; clear h17; try clear N17
 refine vc_ret ?_
 try simp only [k_rules]
 have hr : parsQ t = (c, ix, []) := by rw [← hzp]; exact limR_c hc0 hz1 hz2
 rw [hr]
 refine fin2_ ?_
 exact cl_
 exact at_end
 refine at_alt ?_ ?_
 simp only [pick_rules, list_rules]
 try refine lg_mk ?_
 refine u_st (hq := by exact sq_) ?_
 refine lg_nil ?_
 refine at_seq ?_
 simp only [pick_rules, list_rules]
 try refine lg_mk ?_
 refine u_pt (hq := by exact sq_) ?_
 refine u_ld (hq := by exact sq_) ?_
 refine u_st (hq := by exact sq_) ?_
 refine lg_nil ?_
 refine at_nil ?_
 refine h17 _ ?_; clear h17; try clear N17
 refine vc_ret ?_
 try simp only [k_rules]
 have hr : parsQ t = (c, ix, []) := by rw [← hzp]; exact limR_c hc0 hz1 hz2
 rw [hr]
 refine fin2_ ?_
 exact cl_
 exact at_end
 refine at_alt ?_ ?_
 simp only [pick_rules, list_rules]
 try refine lg_mk ?_
 refine u_st (hq := by exact sq_) ?_
 refine lg_nil ?_
 refine at_seq ?_
 simp only [pick_rules, list_rules]
 try refine lg_mk ?_
 refine u_nl (hq := by exact sq_) ?_
 refine u_pt (hq := by exact sq_) ?_
 refine u_ld (hq := by exact sq_) ?_
 refine u_st (hq := by exact sq_) ?_
 refine lg_nil ?_
 refine at_nil ?_
 refine h17 _ ?_; clear h17; try clear N17
 refine vc_ret ?_
 try simp only [k_rules]
 have hr : parsQ t = (c, ix, []) := by rw [← hzp]; exact limR_c hc0 hz1 hz2
 rw [hr]
 refine fin2_ ?_
 exact cl_
 exact at_end
 have hc0 : c = 0 := by have := hb16; (try simp at this); omega
 obtain ⟨_, hR, hM⟩ := hI.resolve_right (fun h => h.1 hc0)
 rw [List.drop_eq_nil_of_le g1] at hR
 have hv := inv_nil hR
 have hcnt := hM.cnt
 have hLl := hL.len
 refine vc_skip ?_
 try simp only [k_rules]
 refine h14 _ ?_; clear h14; try clear N14
 refine vc_seq_k fun N18 h18 => ?_
 refine vc_seq_k fun N19 h19 => ?_
 refine u_reg ?_
 try refine lg_mk ?_
 refine u_mv (hq := by exact sq_) ?_
 refine u_nl (hq := by exact sq_) ?_
 refine u_pt (hq := by exact sq_) ?_
 refine u_ld (hq := by exact sq_) ?_
 refine u_ln (hq := by exact sq_) ?_
 refine u_bn (hq := by exact sq_) ?_
 refine lg_nil ?_
 refine h19 _ ?_; clear h19; try clear N19
 refine u_cond (fun hb20 => ?_) (fun hb20 => ?_)
 refine vc_seq_k fun N21 h21 => ?_
 refine u_reg ?_
 try refine lg_mk ?_
 refine u_bd (hq := by exact so_) ?_
 have hc := call_rule (E := (E_tkn.at_ 426)) (f := 26) (sp := Spec.pure faultG) rfl
 have hs := @faultG.eq_1
 refine u_cp (hq := by exact so_) ?_
 iterate 2 refine u_st (hq := by exact so_) ?_
 refine lg_nil ?_
 refine h21 _ ?_; clear h21; try clear N21
 refine vc_ret ?_
 try simp only [k_rules]
 have hr : parsQ t = (10, -1, []) := by rw [← hzp, hv]; unfold limR; dsimp only; rw [if_neg (by simp), if_pos (by have := hb20; (try simp at this); omega)]
 rw [hr]
 refine fin2_ ?_
 exact cl_
 refine vc_skip ?_
 try simp only [k_rules]
 refine h18 _ ?_; clear h18; try clear N18
 refine vc_seq_k fun N22 h22 => ?_
 refine u_reg ?_
 try refine lg_mk ?_
 refine u_mv (hq := by exact sq_) ?_
 refine u_nl (hq := by exact sq_) ?_
 refine u_pt (hq := by exact sq_) ?_
 refine u_ld (hq := by exact sq_) ?_
 iterate 2 refine u_bd (hq := by exact sq_) ?_
 iterate 2 refine u_st (hq := by exact sq_) ?_
 refine lg_nil ?_
 refine h22 _ ?_; clear h22; try clear N22
 refine vc_ret ?_
 try simp only [k_rules]
 have hr : parsQ t = (0, 0, m.ns) := by rw [← hzp, hv]; unfold limR; dsimp only; rw [if_neg (by simp), if_neg (by have := hb20; (try simp at this); omega)]
 rw [hr]
 refine fin2_ ?_
 exact cl_
 have f1 : ((i : Int) < (L.length : Int)) = True := eq_true (by omega)
 have f2 : (c = 0) = False := eq_false g2
 have hx := And.intro @f1 (And.intro @f2 hx0)
 refine u_reg ?_
 try refine lg_mk ?_
 iterate 2 refine u_mv (hq := by exact sq_) ?_
 refine u_nl (hq := by exact sq_) ?_
 refine u_pt (hq := by exact sq_) ?_
 refine u_ld (hq := by exact sq_) ?_
 refine u_ln (hq := by exact sq_) ?_
 refine u_bn (hq := by exact sq_) ?_
 refine u_mv (hq := by exact sq_) ?_
 refine v_mv (hq := by exact sq_) ?_
 refine v_nl (hq := by exact sq_) ?_
 iterate 2 refine v_pt (hq := by exact sq_) ?_
 refine v_ld (hq := by exact sq_) ?_
 refine v_bn (hq := by exact sq_) ?_
 refine u_pk (hq := by exact sq_) ?_
 refine lg_nil ?_
 have hx := hx0
 refine h12 _ ?_; clear h12; try clear N12
 refine u_cond (fun hb23 => ?_) (fun hb23 => ?_)
 ·first | omega | exact absurd trivial hb23 | contradiction | (simp_all; done)
 refine vc_exit ?_
 simp only [k_rules, Nat.reduceEqDiff, reduceIte, eq_self]
 refine h8 _ ?_; clear h8; try clear N8
 refine vc_seq_k fun N24 h24 => ?_
 refine vc_seq_k fun N25 h25 => ?_
 refine u_reg ?_
 try refine lg_mk ?_
 refine u_mv (hq := by exact sq_) ?_
 refine u_nl (hq := by exact sq_) ?_
 iterate 2 refine u_pt (hq := by exact sq_) ?_
 refine u_ld (hq := by exact sq_) ?_
 refine u_bn (hq := by exact sq_) ?_
 refine lg_nil ?_
 refine h25 _ ?_; clear h25; try clear N25
 refine u_cond (fun hb26 => ?_) (fun hb26 => ?_)
 have hc0 : c ≠ 0 := by have := hb26; (try simp at this); omega
 obtain ⟨_, hz1, hz2⟩ := hI.resolve_left (fun h => hc0 h.1)
 refine vc_seq_k fun N27 h27 => ?_
 refine vc_regT [] (.seq [0, 1] (.alt 2 (.alt 3 (.alt 4 (.seq [5, 6] .nil) (.alt 5 (.seq [4, 6] .nil) .nil)) (.alt 5 (.seq [3, 4, 6] .nil) .nil)) (.alt 5 (.seq [2, 3, 4, 6] .nil) .nil))) hmix (by kernel_rfl) ?_
 refine at_seq ?_
 simp only [pick_rules, list_rules]
 try refine lg_mk ?_
 refine u_bd (hq := by exact sq_) ?_
 refine u_mv (hq := by exact sq_) ?_
 refine lg_nil ?_
 refine at_alt ?_ ?_
 simp only [pick_rules, list_rules]
 try refine lg_mk ?_
 refine u_nl (hq := by exact sq_) ?_
 refine lg_nil ?_
 refine at_alt ?_ ?_
 simp only [pick_rules, list_rules]
 try refine lg_mk ?_
 refine u_pt (hq := by exact sq_) ?_
 refine lg_nil ?_
 refine at_alt ?_ ?_
 simp only [pick_rules, list_rules]
 try refine lg_mk ?_
 refine u_ld (hq := by exact sq_) ?_
 refine lg_nil ?_
 refine at_seq ?_
 simp only [pick_rules, list_rules]
 try refine lg_mk ?_
 iterate 2 refine u_st (hq := by exact sq_) ?_
 refine lg_nil ?_
 refine at_nil ?_
 refine h27 _ ?_; clear h27; try clear N27
 refine vc_ret ?_
 try simp only [k_rules]
 have hr : parsQ t = (c, ix, []) := by rw [← hzp]; exact limR_c hc0 hz1 hz2
 rw [hr]
 refine fin2_ ?_
 exact cl_
 refine at_alt ?_ ?_
 simp only [pick_rules, list_rules]
 try refine lg_mk ?_
 refine u_st (hq := by exact sq_) ?_
 refine lg_nil ?_
 refine at_seq ?_
 simp only [pick_rules, list_rules]
 try refine lg_mk ?_
 refine u_ld (hq := by exact sq_) ?_
 refine u_st (hq := by exact sq_) ?_
 refine lg_nil ?_
 refine at_nil ?_
 refine h27 _ ?_; clear h27; try clear N27
 refine vc_ret ?_
 try simp only [k_rules]
 have hr : parsQ t = (c, ix, []) := by rw [← hzp]; exact limR_c hc0 hz1 hz2
 rw [hr]
 refine fin2_ ?_
 exact cl_
 exact at_end
 refine at_alt ?_ ?_
 simp only [pick_rules, list_rules]
 try refine lg_mk ?_
 refine u_st (hq := by exact sq_) ?_
 refine lg_nil ?_
 refine at_seq ?_
 simp only [pick_rules, list_rules]
 try refine lg_mk ?_
 refine u_pt (hq := by exact sq_) ?_
 refine u_ld (hq := by exact sq_) ?_
 refine u_st (hq := by exact sq_) ?_
 refine lg_nil ?_
 refine at_nil ?_
 refine h27 _ ?_; clear h27; try clear N27
 refine vc_ret ?_
 try simp only [k_rules]
 have hr : parsQ t = (c, ix, []) := by rw [← hzp]; exact limR_c hc0 hz1 hz2
 rw [hr]
 refine fin2_ ?_
 exact cl_
 exact at_end
 refine at_alt ?_ ?_
 simp only [pick_rules, list_rules]
 try refine lg_mk ?_
 refine u_st (hq := by exact sq_) ?_
 refine lg_nil ?_
 refine at_seq ?_
 simp only [pick_rules, list_rules]
 try refine lg_mk ?_
 refine u_nl (hq := by exact sq_) ?_
 refine u_pt (hq := by exact sq_) ?_
 refine u_ld (hq := by exact sq_) ?_
 refine u_st (hq := by exact sq_) ?_
 refine lg_nil ?_
 refine at_nil ?_
 refine h27 _ ?_; clear h27; try clear N27
 refine vc_ret ?_
 try simp only [k_rules]
 have hr : parsQ t = (c, ix, []) := by rw [← hzp]; exact limR_c hc0 hz1 hz2
 rw [hr]
 refine fin2_ ?_
 exact cl_
 exact at_end
 ·first | omega | exact absurd trivial hb26 | contradiction | (simp_all; done)
 have f1 : ((i : Int) < (L.length : Int)) = True := eq_true (by omega)
 have f2 := True.intro
 obtain ⟨⟨w, a⟩, hxe⟩ := getE (l := L) (i := i) g1
 obtain ⟨_, hR, hM⟩ : (0 : Int) = 0 ∧ RunT (L.drop i) m b z ∧ okMc i m b := hI.resolve_right (fun h => h.1 rfl)
 rw [drop_x hxe] at hR
 have hcnt := hM.cnt
 have hrts := hM.rts
 have hnb := nBin_le m.ops
 have hLl := hL.len
 have hrl : m.rs.length ≤ 1000 := by split at hrts <;> omega
 have hip : ((i : Int) + 1).toNat = i + 1 := by omega
 have hip2 : ((i : Int) + 2).toNat = i + 2 := by omega
 have hn1 : ((m.ns.length + 1 : Nat) : Int) - 1 = (m.ns.length : Int) := by omega
 have hx := And.intro @f1 (And.intro @f2 hx0)
 refine u_reg ?_
 try refine lg_mk ?_
 iterate 2 refine u_mv (hq := by exact sq_) ?_
 refine u_nl (hq := by exact sq_) ?_
 refine u_pt (hq := by exact sq_) ?_
 refine u_ld (hq := by exact sq_) ?_
 refine u_ln (hq := by exact sq_) ?_
 refine u_bn (hq := by exact sq_) ?_
 refine u_mv (hq := by exact sq_) ?_
 refine v_mv (hq := by exact sq_) ?_
 refine v_nl (hq := by exact sq_) ?_
 iterate 2 refine v_pt (hq := by exact sq_) ?_
 refine v_ld (hq := by exact sq_) ?_
 refine v_bn (hq := by exact sq_) ?_
 refine u_pk (hq := by exact sq_) ?_
 refine lg_nil ?_
 have hx := hx0
 refine h12 _ ?_; clear h12; try clear N12
 refine u_cond (fun hb28 => ?_) (fun hb28 => ?_)
 refine vc_skip ?_
 try simp only [k_rules]
 refine h11 _ ?_; clear h11; try clear N11
 refine vc_seq_k fun N29 h29 => ?_
 refine vc_block ?_
 refine vc_seq_k fun N30 h30 => ?_
 have hx := And.intro @hxe (And.intro @eT.eq_1 hx0)
 refine u_reg ?_
 try refine lg_mk ?_
 refine u_mv (hq := by exact so_) ?_
 refine u_nl (hq := by exact so_) ?_
 refine u_pt (hq := by exact so_) ?_
 refine u_ld (hq := by exact so_) ?_
 refine u_mv (hq := by exact so_) ?_
 refine u_pt (hq := by exact so_) ?_
 refine u_ld (hq := by exact so_) ?_
 refine u_al (hq := by exact so_) ?_
 refine u_st (hq := by exact so_) ?_
 refine lg_nil ?_
 have hx := hx0
 refine h30 _ ?_; clear h30; try clear N30
 refine vc_seq_k fun N31 h31 => ?_
 refine u_reg ?_
 try refine lg_mk ?_
 refine u_pt (hq := by exact sq_) ?_
 refine u_ld (hq := by exact sq_) ?_
 have hc := call_rule (E := (E_tkn.at_ 426)) (f := 26) (sp := Spec.pure faultG) rfl
 have hs := @faultG.eq_1
 refine u_cp (hq := by exact sq_) ?_
 refine u_al (hq := by exact sq_) ?_
 refine u_st (hq := by exact sq_) ?_
 refine lg_nil ?_
 refine h31 _ ?_; clear h31; try clear N31
 refine vc_seq_k fun N32 h32 => ?_
 refine vc_seq_k fun N33 h33 => ?_
 refine u_reg ?_
 try refine lg_mk ?_
 refine u_mv (hq := by exact sq_) ?_
 refine lg_nil ?_
 refine h33 _ ?_; clear h33; try clear N33
 refine u_cond (fun hb34 => ?_) (fun hb34 => ?_)
 have hbb : b = true := hb34
 subst hbb
 have hv := inv_t hR
 dsimp only at hv
 refine vc_seq_k fun N35 h35 => ?_
 refine u_reg ?_
 try refine lg_mk ?_
 refine u_mv (hq := by exact sq_) ?_
 refine lg_nil ?_
 refine h35 _ ?_; clear h35; try clear N35
 refine vc_seq_k fun N36 h36 => ?_
 refine vc_seq_k fun N37 h37 => ?_
 refine u_reg ?_
 try refine lg_mk ?_
 refine u_mv (hq := by exact sq_) ?_
 refine lg_nil ?_
 refine h37 _ ?_; clear h37; try clear N37
 refine vc_block ?_
 refine vc_loop_mk (σ := Nat) (fun s => (fun k => 1 ≤ k ∧ k ≤ 17) s)
  (fun s => (fun k => [(2, .ptr 0 0 0), (3, .ptr 1 0 0), (4, .ptr 2 0 0), (5, .d (.bool true)), (6, .d (.int .i64 (i : Nat))), (7, .ptr 6 0 0), (8, .ptr 7 0 0), (9, .d (.int .i64 (kfN w k : Nat))), (10, .d (.int .i64 (k : Nat)))]) s)
  (fun s => (fun k => [some (.one 24 [.d .nils]), some (.one 27 [.d (.int .i64 0), .d (.int .i64 0)]), rgB (rows eT L) (.sl 3 0 m.ns.length) (.sl 4 0 m.rs.length) (.sl 5 0 m.ops.length) (0) (ix), nsB m, ilB m.rs, ilB m.ops, some (.one 94 [.d (.str w), .d (.int .i64 (a : Nat))]), some (.one 27 [.d (.int .i64 1), .d (.int .i64 (a : Nat))])]) s) (fun s => (fun k => 17 - k) s) hnp 1 ?_ [some 0, some 1, some 2, some 3, some 4, some 5, some 6, some 7] ?_ ?_
 dsimp only
 omega
 dsimp only
 refine ⟨by rfl, ?_, ?_⟩
 refine fin_ ?_
 ·(repeat' apply And.intro) <;> (first | (first | rfl | trivial | omega | (rw [kf_one]; rfl) | exact Or.inl (by rw [kf_one]; rfl)) | exact cl_)
 refine fin_ ?_
 ·(repeat' apply And.intro) <;> (first | (first | rfl | trivial | omega | (rw [kf_one]; rfl) | exact Or.inl (by rw [kf_one]; rfl)) | exact cl_)
 rintro k hinv N38 h38
 dsimp only at hinv ⊢
 obtain ⟨k1, k2⟩ := hinv
 refine vc_seq_k fun N39 h39 => ?_
 refine vc_seq_k fun N40 h40 => ?_
 refine u_reg ?_
 try refine lg_mk ?_
 refine u_mv (hq := by exact sq_) ?_
 refine u_bn (hq := by exact sq_) ?_
 refine lg_nil ?_
 refine h40 _ ?_; clear h40; try clear N40
 refine u_cond (fun hb41 => ?_) (fun hb41 => ?_)
 have hk16 : k ≤ 16 := by have := hb41; omega
 have hkf := kf_step (w := w) k1 hk16
 refine vc_skip ?_
 try simp only [k_rules]
 refine h39 _ ?_; clear h39; try clear N39
 refine vc_seq_k fun N42 h42 => ?_
 refine vc_block ?_
 refine vc_seq_k fun N43 h43 => ?_
 rcases (show w = [] ∨ (w ≠ [] ∧ wordN (k : Int) = w) ∨ (w ≠ [] ∧ wordN (k : Int) ≠ w) by by_cases h : w = [] <;> by_cases h' : wordN (k : Int) = w <;> simp [h, h']) with g2 | ⟨g2, g3⟩ | ⟨g2, g3⟩
 have f1 : (w = []) = True := eq_true g2
 have f2 := True.intro
 rw [if_neg (fun h => h.1 g2)] at hkf
 have hx := And.intro @f1 (And.intro @f2 hx0)
 refine vc_regO [60] [0, 1, 2, 3, 4, 6, 7, 5, 8, 9] hmix (by kernel_rfl) ?_
 simp only [pick_rules, list_rules]
 try refine lg_mk ?_
 refine u_pt (hq := by exact sq_) ?_
 refine u_ld (hq := by exact sq_) ?_
 refine u_bn (hq := by exact sq_) ?_
 refine u_mv (hq := by exact sq_) ?_
 refine lg_g0 ?_ ?_
 focus (exact gt_)
 refine lg_g0 ?_ ?_
 focus (exact gt_)
 refine lg_g0 ?_ ?_
 focus (exact gt_)
 refine lg_g0 ?_ ?_
 focus (exact gt_)
 refine lg_g0 ?_ ?_
 focus (exact gt_)
 refine u_pk (hq := by exact sq_) ?_
 refine lg_nil ?_
 have hx := hx0
 refine h43 _ ?_; clear h43; try clear N43
 refine u_cond (fun hb44 => ?_) (fun hb44 => ?_)
 ·first | omega | exact absurd trivial hb44 | contradiction | (simp_all; done)
 refine vc_skip ?_
 try simp only [k_rules]
 refine h42 _ ?_; clear h42; try clear N42
 refine u_reg ?_
 try refine lg_mk ?_
 refine u_mv (hq := by exact so_) ?_
 refine u_bn (hq := by exact so_) ?_
 refine u_mv (hq := by exact so_) ?_
 refine lg_nil ?_
 refine h38 _ ⟨k + 1, ?_, ?_, [some 0, some 1, some 2, some 3, some 4, some 5, some 6, some 7], ?_⟩
 dsimp only
 omega
 dsimp only
 omega
 dsimp only
 refine ⟨by rfl, ?_, ?_⟩
 refine fin_ ?_
 ·(repeat' apply And.intro) <;> (first | (first | rfl | trivial | omega | (rw [hkf]; done) | exact Or.inl rfl | exact Or.inl (by rw [hkf])) | exact cl_)
 refine fin_ ?_
 ·(repeat' apply And.intro) <;> (first | (first | rfl | trivial | omega | (rw [hkf]; done) | exact Or.inl rfl | exact Or.inl (by rw [hkf])) | exact cl_)
 have f1 : (w = []) = False := eq_false g2
 have f2 : (wordN (k : Int) = w) = True := eq_true g3
 rw [if_pos ⟨g2, g3⟩] at hkf
 have hx := And.intro @f1 (And.intro @f2 hx0)
 refine vc_regO [60] [0, 1, 2, 3, 4, 6, 7, 5, 8, 9] hmix (by kernel_rfl) ?_
 simp only [pick_rules, list_rules]
 try refine lg_mk ?_
 refine u_pt (hq := by exact sq_) ?_
 refine u_ld (hq := by exact sq_) ?_
 refine u_bn (hq := by exact sq_) ?_
 refine u_mv (hq := by exact sq_) ?_
 refine v_mv (hq := by exact sq_) ?_
 refine v_pt (hq := by exact sq_) ?_
 refine v_ld (hq := by exact sq_) ?_
 have hc := call_rule (E := (E_tkn.at_ 426)) (f := 60) (sp := Spec.pure rwG) rfl
 have hs := @rwG.eq_1
 refine v_cp (hq := by exact sq_) ?_
 refine v_bn (hq := by exact sq_) ?_
 refine u_pk (hq := by exact sq_) ?_
 refine lg_nil ?_
 have hx := hx0
 refine h43 _ ?_; clear h43; try clear N43
 refine u_cond (fun hb45 => ?_) (fun hb45 => ?_)
 refine u_reg ?_
 try refine lg_mk ?_
 iterate 2 refine u_mv (hq := by exact sq_) ?_
 refine lg_nil ?_
 refine h42 _ ?_; clear h42; try clear N42
 refine u_reg ?_
 try refine lg_mk ?_
 refine u_mv (hq := by exact so_) ?_
 refine u_bn (hq := by exact so_) ?_
 refine u_mv (hq := by exact so_) ?_
 refine lg_nil ?_
 refine h38 _ ⟨k + 1, ?_, ?_, [some 0, some 1, some 2, some 3, some 4, some 5, some 6, some 7], ?_⟩
 dsimp only
 omega
 dsimp only
 omega
 dsimp only
 refine ⟨by rfl, ?_, ?_⟩
 refine fin_ ?_
 ·(repeat' apply And.intro) <;> (first | (first | rfl | trivial | omega | (rw [hkf]; done) | exact Or.inl rfl | exact Or.inl (by rw [hkf])) | exact cl_)
 refine fin_ ?_
 ·(repeat' apply And.intro) <;> (first | (first | rfl | trivial | omega | (rw [hkf]; done) | exact Or.inl rfl | exact Or.inl (by rw [hkf])) | exact cl_)
 ·first | omega | exact absurd trivial hb45 | contradiction | (simp_all; done)
 have f1 : (w = []) = False := eq_false g2
 have f2 : (wordN (k : Int) = w) = False := eq_false g3
 rw [if_neg (fun h => g3 h.2)] at hkf
 have hx := And.intro @f1 (And.intro @f2 hx0)
 refine vc_regO [60] [0, 1, 2, 3, 4, 6, 7, 5, 8, 9] hmix (by kernel_rfl) ?_
 simp only [pick_rules, list_rules]
 try refine lg_mk ?_
 refine u_pt (hq := by exact sq_) ?_
 refine u_ld (hq := by exact sq_) ?_
 refine u_bn (hq := by exact sq_) ?_
 refine u_mv (hq := by exact sq_) ?_
 refine v_mv (hq := by exact sq_) ?_
 refine v_pt (hq := by exact sq_) ?_
 refine v_ld (hq := by exact sq_) ?_
 have hc := call_rule (E := (E_tkn.at_ 426)) (f := 60) (sp := Spec.pure rwG) rfl
 have hs := @rwG.eq_1
 refine v_cp (hq := by exact sq_) ?_
 refine v_bn (hq := by exact sq_) ?_
 refine u_pk (hq := by exact sq_) ?_
 refine lg_nil ?_
 have hx := hx0
 refine h43 _ ?_; clear h43; try clear N43
 refine u_cond (fun hb46 => ?_) (fun hb46 => ?_)
 ·first | omega | exact absurd trivial hb46 | contradiction | (simp_all; done)
 refine vc_skip ?_
 try simp only [k_rules]
 refine h42 _ ?_; clear h42; try clear N42
 refine u_reg ?_
 try refine lg_mk ?_
 refine u_mv (hq := by exact so_) ?_
 refine u_bn (hq := by exact so_) ?_
 refine u_mv (hq := by exact so_) ?_
 refine lg_nil ?_
 refine h38 _ ⟨k + 1, ?_, ?_, [some 0, some 1, some 2, some 3, some 4, some 5, some 6, some 7], ?_⟩
 dsimp only
 omega
 dsimp only
 omega
 dsimp only
 refine ⟨by rfl, ?_, ?_⟩
 refine fin_ ?_
 ·(repeat' apply And.intro) <;> (first | (first | rfl | trivial | omega | (rw [hkf]; done) | exact Or.inl rfl | exact Or.inl (by rw [hkf])) | exact cl_)
 refine fin_ ?_
 ·(repeat' apply And.intro) <;> (first | (first | rfl | trivial | omega | (rw [hkf]; done) | exact Or.inl rfl | exact Or.inl (by rw [hkf])) | exact cl_)
 obtain rfl : k = 17 := by have := hb41; omega
 rw [kf_end]
 have hkc := kind_cases w
 have hwn0 := kindN_ne (w := w)
 generalize kindN w = kd at *
 refine vc_exit ?_
 simp only [k_rules, Nat.reduceEqDiff, reduceIte, eq_self]
 refine h36 _ ?_; clear h36; try clear N36
 refine vc_seq_k fun N47 h47 => ?_
 refine vc_seq_k fun N48 h48 => ?_
 refine u_reg ?_
 try refine lg_mk ?_
 refine u_pt (hq := by exact sq_) ?_
 refine u_ld (hq := by exact sq_) ?_
 refine u_bn (hq := by exact sq_) ?_
 refine lg_nil ?_
 refine h48 _ ?_; clear h48; try clear N48
 refine u_cond (fun hb49 => ?_) (fun hb49 => ?_)
 have hw : w = [33] := by have := hb49; simpa using this
 rw [if_pos hw] at hv
 refine u_reg ?_
 try refine lg_mk ?_
 iterate 2 refine u_mv (hq := by exact sq_) ?_
 refine u_nl (hq := by exact sq_) ?_
 refine u_pt (hq := by exact sq_) ?_
 refine u_ld (hq := by exact sq_) ?_
 refine u_bs (hq := by exact sq_) ?_
 refine u_ap (hq := by exact sq_) ?_
 refine u_nl (hq := by exact sq_) ?_
 refine u_pt (hq := by exact sq_) ?_
 refine u_st (hq := by exact sq_) ?_
 refine lg_nil ?_
 refine h47 _ ?_; clear h47; try clear N47
 refine vc_exit ?_
 simp only [k_rules, Nat.reduceEqDiff, reduceIte, eq_self]
 refine h29 _ ?_; clear h29; try clear N29
 refine u_reg ?_
 try refine lg_mk ?_
 refine u_mv (hq := by exact so_) ?_
 refine u_bn (hq := by exact so_) ?_
 refine u_mv (hq := by exact so_) ?_
 refine lg_nil ?_
 refine h10 _ ⟨(i + 1, pushM m 7, true, 0, ix), ?_, ?_, [some 0, some 1, some 2, some 3, some 4, some 9], ?_⟩
 dsimp only
 exact ⟨.inl ⟨rfl, hv, hM.push (.inr (.inl rfl)) (by omega) (by omega)⟩, by omega⟩
 dsimp only
 omega
 dsimp only
 refine ⟨by rfl, ?_, ?_⟩
 refine fin_ ?_
 ·(repeat' apply And.intro) <;> exact sbt_
 refine fin_ ?_
 ·(repeat' apply And.intro) <;> exact sbt_
 have hw1 : ¬w = [33] := by have := hb49; simpa using this
 rw [if_neg hw1] at hv
 refine vc_seq_k fun N50 h50 => ?_
 refine u_reg ?_
 try refine lg_mk ?_
 refine u_pt (hq := by exact sq_) ?_
 refine u_ld (hq := by exact sq_) ?_
 refine u_bn (hq := by exact sq_) ?_
 refine lg_nil ?_
 refine h50 _ ?_; clear h50; try clear N50
 refine u_cond (fun hb51 => ?_) (fun hb51 => ?_)
 have hw : w = [40] := by have := hb51; simpa using this
 rw [if_pos hw] at hv
 refine u_reg ?_
 try refine lg_mk ?_
 iterate 2 refine u_mv (hq := by exact so_) ?_
 refine u_nl (hq := by exact so_) ?_
 refine u_pt (hq := by exact so_) ?_
 refine u_ld (hq := by exact so_) ?_
 refine u_bs (hq := by exact so_) ?_
 refine u_ap (hq := by exact so_) ?_
 refine u_nl (hq := by exact so_) ?_
 refine u_pt (hq := by exact so_) ?_
 refine u_st (hq := by exact so_) ?_
 refine lg_nil ?_
 refine h47 _ ?_; clear h47; try clear N47
 refine vc_exit ?_
 simp only [k_rules, Nat.reduceEqDiff, reduceIte, eq_self]
 refine h29 _ ?_; clear h29; try clear N29
 refine u_reg ?_
 try refine lg_mk ?_
 refine u_mv (hq := by exact so_) ?_
 refine u_bn (hq := by exact so_) ?_
 refine u_mv (hq := by exact so_) ?_
 refine lg_nil ?_
 refine h10 _ ⟨(i + 1, pushM m 0, true, 0, ix), ?_, ?_, [some 0, some 1, some 2, some 3, some 4, some 9], ?_⟩
 dsimp only
 exact ⟨.inl ⟨rfl, hv, hM.push (.inl rfl) (by omega) (by omega)⟩, by omega⟩
 dsimp only
 omega
 dsimp only
 refine ⟨by rfl, ?_, ?_⟩
 refine fin_ ?_
 ·(repeat' apply And.intro) <;> exact sbt_
 refine fin_ ?_
 ·(repeat' apply And.intro) <;> exact sbt_
 have hw2 : ¬w = [40] := by have := hb51; simpa using this
 rw [if_neg hw2] at hv
 refine vc_seq_k fun N52 h52 => ?_
 refine u_reg ?_
 try refine lg_mk ?_
 refine u_pt (hq := by exact sq_) ?_
 refine u_ld (hq := by exact sq_) ?_
 refine u_bn (hq := by exact sq_) ?_
 refine lg_nil ?_
 refine h52 _ ?_; clear h52; try clear N52
 refine u_cond (fun hb53 => ?_) (fun hb53 => ?_)
 have hw : w = [35] := by have := hb53; simpa using this
 rw [if_pos hw] at hv
 have hlt1 := hL.nxt i _ hxe (by rw [hw]; simp)
 obtain ⟨⟨ww2, a2⟩, hy1⟩ := getE (l := L) (i := i + 1) hlt1
 have hwl2 : ww2.length ≤ 300 := (hL.dig _ _ hy1).2
 have hwd2 : dgW ww2 := (hL.dig _ _ hy1).1
 rw [hd_drop hy1, tl_drop] at hv
 dsimp only at hv
 refine vc_seq_k fun N54 h54 => ?_
 refine u_reg ?_
 try refine lg_mk ?_
 refine u_mv (hq := by exact sq_) ?_
 refine u_bn (hq := by exact sq_) ?_
 refine u_mv (hq := by exact sq_) ?_
 refine lg_nil ?_
 refine h54 _ ?_; clear h54; try clear N54
 refine vc_seq_m (σ := Int × Int × Int) (fun s => (fun X c2 ix2 => nxI (RunT (L.drop (i + 2)) (leafM m ⟨3, X, 0, 0⟩) false z) z c2 ix2) (s.1) (s.2.1) (s.2.2))
  (fun s => (fun X c2 ix2 => [(2, .ptr 0 0 0), (3, .ptr 1 0 0), (4, .ptr 2 0 0), (5, .d (.bool true)), (6, .d (.int .i64 (i + 1 : Nat))), (7, .ptr 6 0 0), (8, .ptr 7 0 0), (11, .d (.int .i64 X))]) (s.1) (s.2.1) (s.2.2))
  (fun s => (fun X c2 ix2 => [some (.one 24 [.d .nils]), some (.one 27 [.d (.int .i64 0), .d (.int .i64 0)]), rgB (rows eT L) (.sl 3 0 m.ns.length) (.sl 4 0 m.rs.length) (.sl 5 0 m.ops.length) (c2) (ix2), nsB m, ilB m.rs, ilB m.ops, some (.one 94 [.d (.str w), .d (.int .i64 (a : Nat))]), some (.one 27 [.d (.int .i64 1), .d (.int .i64 (a : Nat))])]) (s.1) (s.2.1) (s.2.2)) hnp ?_ ?_
 rintro ⟨X, c2, ix2⟩ hinv
 dsimp only at hinv ⊢
 have hP := hinv
 refine vc_seq_k fun N56 h56 => ?_
 refine u_reg ?_
 try refine lg_mk ?_
 iterate 2 refine u_mv (hq := by exact sq_) ?_
 refine u_nl (hq := by exact sq_) ?_
 refine u_pt (hq := by exact sq_) ?_
 refine u_ld (hq := by exact sq_) ?_
 refine u_mv (hq := by exact sq_) ?_
 refine u_bd (hq := by exact sq_) ?_
 refine u_bs (hq := by exact sq_) ?_
 refine u_ap (hq := by exact sq_) ?_
 refine u_nl (hq := by exact sq_) ?_
 refine u_pt (hq := by exact sq_) ?_
 refine u_st (hq := by exact sq_) ?_
 refine lg_nil ?_
 refine h56 _ ?_; clear h56; try clear N56
 refine vc_seq_k fun N57 h57 => ?_
 have hx := And.intro @hn1 hx0
 refine u_reg ?_
 try refine lg_mk ?_
 iterate 2 refine u_mv (hq := by exact sq_) ?_
 refine u_nl (hq := by exact sq_) ?_
 refine u_pt (hq := by exact sq_) ?_
 refine u_ld (hq := by exact sq_) ?_
 refine u_mv (hq := by exact sq_) ?_
 refine u_nl (hq := by exact sq_) ?_
 refine u_pt (hq := by exact sq_) ?_
 refine u_ld (hq := by exact sq_) ?_
 refine u_ln (hq := by exact sq_) ?_
 refine u_bn (hq := by exact sq_) ?_
 refine u_bs (hq := by exact sq_) ?_
 refine u_ap (hq := by exact sq_) ?_
 refine u_nl (hq := by exact sq_) ?_
 refine u_pt (hq := by exact sq_) ?_
 refine u_st (hq := by exact sq_) ?_
 refine lg_nil ?_
 have hx := hx0
 refine h57 _ ?_; clear h57; try clear N57
 refine u_reg ?_
 try refine lg_mk ?_
 refine u_mv (hq := by exact sq_) ?_
 refine lg_nil ?_
 refine h47 _ ?_; clear h47; try clear N47
 refine vc_exit ?_
 simp only [k_rules, Nat.reduceEqDiff, reduceIte, eq_self]
 refine h29 _ ?_; clear h29; try clear N29
 refine u_reg ?_
 try refine lg_mk ?_
 refine u_mv (hq := by exact so_) ?_
 refine u_bn (hq := by exact so_) ?_
 refine u_mv (hq := by exact so_) ?_
 refine lg_nil ?_
 refine h10 _ ⟨(i + 2, leafM m ⟨3, X, 0, 0⟩, false, c2, ix2), ?_, ?_, [some 0, some 1, some 2, some 9, some 11, some 5], ?_⟩
 dsimp only
 refine ⟨?_, by omega⟩
 rcases hP with h | h
 exact .inl ⟨h.1, h.2, hM.leaf (by omega)⟩
 exact .inr h
 dsimp only
 omega
 dsimp only
 refine ⟨by rfl, ?_, ?_⟩
 refine fin_ ?_
 ·(repeat' apply And.intro) <;> exact sbt_
 refine fin_ ?_
 ·(repeat' apply And.intro) <;> exact sbt_
 intro N55 h55
 rcases num_split (hL.dig _ _ hy1).1 (59) 0 ix a2 with ⟨hn, hX, hC, hIx⟩ | ⟨n, hn, hnb, hX, ⟨hle, hC, hIx⟩ | ⟨hle, hC, hIx⟩⟩
 rw [hn] at hv
 dsimp only at hv
 have hx := And.intro @hip (And.intro @hy1 (And.intro @eT.eq_1 (And.intro @hX (And.intro @hC (And.intro @hIx hx0)))))
 refine u_reg ?_
 try refine lg_mk ?_
 iterate 2 refine u_mv (hq := by exact sq_) ?_
 refine u_nl (hq := by exact sq_) ?_
 refine u_pt (hq := by exact sq_) ?_
 refine u_ld (hq := by exact sq_) ?_
 refine u_mv (hq := by exact sq_) ?_
 refine u_pt (hq := by exact sq_) ?_
 refine u_ld (hq := by exact sq_) ?_
 have hc := call_rule (E := (E_tkn.at_ 426)) (f := 61) (sp := Spec.gen numrG) rfl
 have hs := @numrG.eq_1
 refine u_hg (hq := by (first | (exact ⟨rfl, by omega, by omega, hwd2⟩) | exact sd_)) ?_
 refine u_mv (hq := by exact sq_) ?_
 refine lg_nil ?_
 have hx := hx0
 refine h55 _ ⟨(0, 1, a2), ?_, [some 0, some 1, some 2, some 3, some 4, some 5, some 6, some 7], ?_⟩
 dsimp only
 exact .inr ⟨by decide, by rw [hv], by rw [hv]⟩
 dsimp only
 refine ⟨by rfl, ?_, ?_⟩
 refine fin_ ?_
 ·(repeat' apply And.intro) <;> (first | (first | with_reducible rfl | exact Or.inl rfl | rfl) | exact cl_)
 refine fin_ ?_
 ·(repeat' apply And.intro) <;> (first | (first | with_reducible rfl | exact Or.inl rfl | rfl) | exact cl_)
 rw [hn] at hv
 dsimp only at hv
 rw [if_pos (by first | exact hle | (show (n : Int) ≤ 59; exact hle))] at hv
 have hx := And.intro @hip (And.intro @hy1 (And.intro @eT.eq_1 (And.intro @hX (And.intro @hC (And.intro @hIx hx0)))))
 refine u_reg ?_
 try refine lg_mk ?_
 iterate 2 refine u_mv (hq := by exact sq_) ?_
 refine u_nl (hq := by exact sq_) ?_
 refine u_pt (hq := by exact sq_) ?_
 refine u_ld (hq := by exact sq_) ?_
 refine u_mv (hq := by exact sq_) ?_
 refine u_pt (hq := by exact sq_) ?_
 refine u_ld (hq := by exact sq_) ?_
 have hc := call_rule (E := (E_tkn.at_ 426)) (f := 61) (sp := Spec.gen numrG) rfl
 have hs := @numrG.eq_1
 refine u_hg (hq := by (first | (exact ⟨rfl, by omega, by omega, hwd2⟩) | exact sd_)) ?_
 refine u_mv (hq := by exact sq_) ?_
 refine lg_nil ?_
 have hx := hx0
 refine h55 _ ⟨(n, 0, ix), ?_, [some 0, some 1, some 2, some 3, some 4, some 5, some 6, some 7], ?_⟩
 dsimp only
 exact .inl ⟨rfl, hv⟩
 dsimp only
 refine ⟨by rfl, ?_, ?_⟩
 refine fin_ ?_
 ·(repeat' apply And.intro) <;> (first | (first | with_reducible rfl | exact Or.inl rfl | rfl) | exact cl_)
 refine fin_ ?_
 ·(repeat' apply And.intro) <;> (first | (first | with_reducible rfl | exact Or.inl rfl | rfl) | exact cl_)
 rw [hn] at hv
 dsimp only at hv
 rw [if_neg (by first | exact hle | (show ¬(n : Int) ≤ 59; exact hle))] at hv
 have hx := And.intro @hip (And.intro @hy1 (And.intro @eT.eq_1 (And.intro @hX (And.intro @hC (And.intro @hIx hx0)))))
 refine u_reg ?_
 try refine lg_mk ?_
 iterate 2 refine u_mv (hq := by exact sq_) ?_
 refine u_nl (hq := by exact sq_) ?_
 refine u_pt (hq := by exact sq_) ?_
 refine u_ld (hq := by exact sq_) ?_
 refine u_mv (hq := by exact sq_) ?_
 refine u_pt (hq := by exact sq_) ?_
 refine u_ld (hq := by exact sq_) ?_
 have hc := call_rule (E := (E_tkn.at_ 426)) (f := 61) (sp := Spec.gen numrG) rfl
 have hs := @numrG.eq_1
 refine u_hg (hq := by (first | (exact ⟨rfl, by omega, by omega, hwd2⟩) | exact sd_)) ?_
 refine u_mv (hq := by exact sq_) ?_
 refine lg_nil ?_
 have hx := hx0
 refine h55 _ ⟨(n, 3, a2), ?_, [some 0, some 1, some 2, some 3, some 4, some 5, some 6, some 7], ?_⟩
 dsimp only
 exact .inr ⟨by decide, by rw [hv], by rw [hv]⟩
 dsimp only
 refine ⟨by rfl, ?_, ?_⟩
 refine fin_ ?_
 ·(repeat' apply And.intro) <;> (first | (first | with_reducible rfl | exact Or.inl rfl | rfl) | exact cl_)
 refine fin_ ?_
 ·(repeat' apply And.intro) <;> (first | (first | with_reducible rfl | exact Or.inl rfl | rfl) | exact cl_)
 have hw3 : ¬w = [35] := by have := hb53; simpa using this
 rw [if_neg hw3] at hv
 refine vc_seq_k fun N58 h58 => ?_
 refine u_reg ?_
 try refine lg_mk ?_
 refine u_mv (hq := by exact sq_) ?_
 refine u_bn (hq := by exact sq_) ?_
 refine lg_nil ?_
 refine h58 _ ?_; clear h58; try clear N58
 refine u_cond (fun hb59 => ?_) (fun hb59 => ?_)
 have hk0 : kd = 0 := by have := hb59; (try simp at this); omega
 rw [if_pos hk0] at hv
 refine u_reg ?_
 try refine lg_mk ?_
 refine u_mv (hq := by exact sq_) ?_
 refine u_ld (hq := by exact sq_) ?_
 refine u_nl (hq := by exact sq_) ?_
 refine u_pt (hq := by exact sq_) ?_
 refine u_st (hq := by exact sq_) ?_
 refine lg_nil ?_
 refine h47 _ ?_; clear h47; try clear N47
 refine vc_exit ?_
 simp only [k_rules, Nat.reduceEqDiff, reduceIte, eq_self]
 refine h29 _ ?_; clear h29; try clear N29
 refine u_reg ?_
 try refine lg_mk ?_
 refine u_mv (hq := by exact so_) ?_
 refine u_bn (hq := by exact so_) ?_
 refine u_mv (hq := by exact so_) ?_
 refine lg_nil ?_
 refine h10 _ ⟨(i + 1, m, true, 1, a), ?_, ?_, [some 0, some 1, some 2, some 3, some 4, some 5], ?_⟩
 dsimp only
 exact ⟨.inr ⟨by decide, by rw [hv], by rw [hv]⟩, by omega⟩
 dsimp only
 omega
 dsimp only
 refine ⟨by rfl, ?_, ?_⟩
 refine fin_ ?_
 ·(repeat' apply And.intro) <;> exact sbt_
 refine fin_ ?_
 ·(repeat' apply And.intro) <;> exact sbt_
 have hk0 : ¬kd = 0 := by have := hb59; (try simp at this); omega
 rw [if_neg hk0] at hv
 have hwn := hwn0 hk0
 refine vc_seq_k fun N60 h60 => ?_
 refine u_reg ?_
 try refine lg_mk ?_
 refine u_mv (hq := by exact sq_) ?_
 have hc := call_rule (E := (E_tkn.at_ 426)) (f := 39) (sp := Spec.pure mostG) rfl
 have hs := @mostG.eq_1
 refine u_cp (hq := by exact sq_) ?_
 refine u_bn (hq := by exact sq_) ?_
 refine u_mv (hq := by exact sq_) ?_
 refine s_mv (hq := by (intro hg; (try simp only [b_rules, bif_and, bif_or] at hg); exact sq_)) ?_
 have hc := call_rule (E := (E_tkn.at_ 426)) (f := 40) (sp := Spec.pure arG) rfl
 have hs := @arG.eq_1
 refine s_cp (hq := by (intro hg; (try simp only [b_rules, bif_and, bif_or] at hg); exact sq_)) ?_
 refine s_bn (hq := by (intro hg; (try simp only [b_rules, bif_and, bif_or] at hg); exact sq_)) ?_
 refine u_pk (hq := by exact sq_) ?_
 refine lg_nil ?_
 refine h60 _ ?_; clear h60; try clear N60
 refine u_cond (fun hb61 => ?_) (fun hb61 => ?_)
 have hk1 : kd = 1 ∨ kd = 2 ∨ kd = 6 := kd_leaf hkc hk0 (by have := hb61; simpa using this)
 rw [if_pos hk1] at hv
 refine vc_seq_k fun N62 h62 => ?_
 refine u_reg ?_
 try refine lg_mk ?_
 iterate 2 refine u_mv (hq := by exact sq_) ?_
 refine u_nl (hq := by exact sq_) ?_
 refine u_pt (hq := by exact sq_) ?_
 refine u_ld (hq := by exact sq_) ?_
 refine u_mv (hq := by exact sq_) ?_
 refine u_bd (hq := by exact sq_) ?_
 refine u_bs (hq := by exact sq_) ?_
 refine u_ap (hq := by exact sq_) ?_
 refine u_nl (hq := by exact sq_) ?_
 refine u_pt (hq := by exact sq_) ?_
 refine u_st (hq := by exact sq_) ?_
 refine lg_nil ?_
 refine h62 _ ?_; clear h62; try clear N62
 refine vc_seq_k fun N63 h63 => ?_
 have hx := And.intro @hn1 hx0
 refine u_reg ?_
 try refine lg_mk ?_
 iterate 2 refine u_mv (hq := by exact so_) ?_
 refine u_nl (hq := by exact so_) ?_
 refine u_pt (hq := by exact so_) ?_
 refine u_ld (hq := by exact so_) ?_
 refine u_mv (hq := by exact so_) ?_
 refine u_nl (hq := by exact so_) ?_
 refine u_pt (hq := by exact so_) ?_
 refine u_ld (hq := by exact so_) ?_
 refine u_ln (hq := by exact so_) ?_
 refine u_bn (hq := by exact so_) ?_
 refine u_bs (hq := by exact so_) ?_
 refine u_ap (hq := by exact so_) ?_
 refine u_nl (hq := by exact so_) ?_
 refine u_pt (hq := by exact so_) ?_
 refine u_st (hq := by exact so_) ?_
 refine lg_nil ?_
 have hx := hx0
 refine h63 _ ?_; clear h63; try clear N63
 refine u_reg ?_
 try refine lg_mk ?_
 refine u_mv (hq := by exact sq_) ?_
 refine lg_nil ?_
 refine h47 _ ?_; clear h47; try clear N47
 refine vc_exit ?_
 simp only [k_rules, Nat.reduceEqDiff, reduceIte, eq_self]
 refine h29 _ ?_; clear h29; try clear N29
 refine u_reg ?_
 try refine lg_mk ?_
 refine u_mv (hq := by exact so_) ?_
 refine u_bn (hq := by exact so_) ?_
 refine u_mv (hq := by exact so_) ?_
 refine lg_nil ?_
 refine h10 _ ⟨(i + 1, leafM m ⟨kd, 0, 0, 0⟩, false, 0, ix), ?_, ?_, [some 0, some 1, some 2, some 9, some 11, some 5], ?_⟩
 dsimp only
 exact ⟨.inl ⟨rfl, hv, hM.leaf (by omega)⟩, by omega⟩
 dsimp only
 omega
 dsimp only
 refine ⟨by rfl, ?_, ?_⟩
 refine fin_ ?_
 ·(repeat' apply And.intro) <;> exact sbt_
 refine fin_ ?_
 ·(repeat' apply And.intro) <;> exact sbt_
 have hk1 : ¬(kd = 1 ∨ kd = 2 ∨ kd = 6) := fun h => by have h2 := kd_leaf' h; have := hb61; simp [h2] at this
 rw [if_neg hk1] at hv
 have hlt1 := hL.nxt i _ hxe hwn
 obtain ⟨⟨ww2, a2⟩, hy1⟩ := getE (l := L) (i := i + 1) hlt1
 rw [hd_drop hy1] at hv
 simp only [tl_drop] at hv
 refine vc_seq_k fun N64 h64 => ?_
 have hx := And.intro @hip (And.intro @hy1 (And.intro @eT.eq_1 hx0))
 refine u_reg ?_
 try refine lg_mk ?_
 refine u_mv (hq := by exact so_) ?_
 refine u_nl (hq := by exact so_) ?_
 refine u_pt (hq := by exact so_) ?_
 refine u_ld (hq := by exact so_) ?_
 refine u_mv (hq := by exact so_) ?_
 refine u_bn (hq := by exact so_) ?_
 iterate 2 refine u_pt (hq := by exact so_) ?_
 refine u_ld (hq := by exact so_) ?_
 refine u_bn (hq := by exact so_) ?_
 refine lg_nil ?_
 have hx := hx0
 refine h64 _ ?_; clear h64; try clear N64
 refine u_cond (fun hb65 => ?_) (fun hb65 => ?_)
 have hw2' : ww2 ≠ [40] := by have := hb65; simpa using this
 rw [if_pos hw2'] at hv
 have hx := And.intro @hip (And.intro @hy1 (And.intro @eT.eq_1 hx0))
 refine u_reg ?_
 try refine lg_mk ?_
 iterate 2 refine u_mv (hq := by exact sq_) ?_
 refine u_nl (hq := by exact sq_) ?_
 refine u_pt (hq := by exact sq_) ?_
 refine u_ld (hq := by exact sq_) ?_
 refine u_mv (hq := by exact sq_) ?_
 refine u_bn (hq := by exact sq_) ?_
 iterate 2 refine u_pt (hq := by exact sq_) ?_
 refine u_ld (hq := by exact sq_) ?_
 have hc := call_rule (E := (E_tkn.at_ 426)) (f := 26) (sp := Spec.pure faultG) rfl
 have hs := @faultG.eq_1
 refine u_cp (hq := by exact sq_) ?_
 refine u_nl (hq := by exact sq_) ?_
 refine u_pt (hq := by exact sq_) ?_
 refine u_st (hq := by exact sq_) ?_
 refine lg_nil ?_
 have hx := hx0
 refine h47 _ ?_; clear h47; try clear N47
 refine vc_exit ?_
 simp only [k_rules, Nat.reduceEqDiff, reduceIte, eq_self]
 refine h29 _ ?_; clear h29; try clear N29
 refine u_reg ?_
 try refine lg_mk ?_
 refine u_mv (hq := by exact so_) ?_
 refine u_bn (hq := by exact so_) ?_
 refine u_mv (hq := by exact so_) ?_
 refine lg_nil ?_
 refine h10 _ ⟨(i + 1, m, true, 1, a2), ?_, ?_, [some 0, some 1, some 2, some 3, some 4, some 5], ?_⟩
 dsimp only
 exact ⟨.inr ⟨by decide, by rw [hv], by rw [hv]⟩, by omega⟩
 dsimp only
 omega
 dsimp only
 refine ⟨by rfl, ?_, ?_⟩
 refine fin_ ?_
 ·(repeat' apply And.intro) <;> exact sbt_
 refine fin_ ?_
 ·(repeat' apply And.intro) <;> exact sbt_
 have hw2' : ww2 = [40] := by have := hb65; simpa using this
 rw [if_neg (fun h => h hw2')] at hv
 refine vc_seq_k fun N66 h66 => ?_
 refine u_reg ?_
 try refine lg_mk ?_
 refine u_mv (hq := by exact sq_) ?_
 have hc := call_rule (E := (E_tkn.at_ 426)) (f := 40) (sp := Spec.pure arG) rfl
 have hs := @arG.eq_1
 refine u_cp (hq := by exact sq_) ?_
 refine u_bn (hq := by exact sq_) ?_
 refine lg_nil ?_
 refine h66 _ ?_; clear h66; try clear N66
 refine u_cond (fun hb67 => ?_) (fun hb67 => ?_)
 have ha1 : ar (kd) = 1 := by have := hb67; (try simp at this); omega
 rw [if_pos ha1] at hv
 have hng : (0 : Int) - ((kd : Nat) : Int) = -((kd : Nat) : Int) := by omega
 have hko := kd_one hkc ha1
 refine vc_seq_k fun N68 h68 => ?_
 have hx := And.intro @hng hx0
 refine u_reg ?_
 try refine lg_mk ?_
 iterate 2 refine u_mv (hq := by exact sq_) ?_
 refine u_nl (hq := by exact sq_) ?_
 refine u_pt (hq := by exact sq_) ?_
 refine u_ld (hq := by exact sq_) ?_
 refine u_mv (hq := by exact sq_) ?_
 refine u_un (hq := by exact sq_) ?_
 refine u_bs (hq := by exact sq_) ?_
 refine u_ap (hq := by exact sq_) ?_
 refine u_nl (hq := by exact sq_) ?_
 refine u_pt (hq := by exact sq_) ?_
 refine u_st (hq := by exact sq_) ?_
 refine lg_nil ?_
 have hx := hx0
 refine h68 _ ?_; clear h68; try clear N68
 refine u_reg ?_
 try refine lg_mk ?_
 refine u_mv (hq := by exact so_) ?_
 refine u_bn (hq := by exact so_) ?_
 refine u_mv (hq := by exact so_) ?_
 refine lg_nil ?_
 refine h47 _ ?_; clear h47; try clear N47
 refine vc_exit ?_
 simp only [k_rules, Nat.reduceEqDiff, reduceIte, eq_self]
 refine h29 _ ?_; clear h29; try clear N29
 refine u_reg ?_
 try refine lg_mk ?_
 refine u_mv (hq := by exact so_) ?_
 refine u_bn (hq := by exact so_) ?_
 refine u_mv (hq := by exact so_) ?_
 refine lg_nil ?_
 refine h10 _ ⟨(i + 2, pushM m (-((kd : Nat) : Int)), true, 0, ix), ?_, ?_, [some 0, some 1, some 2, some 3, some 4, some 9], ?_⟩
 dsimp only
 exact ⟨.inl ⟨rfl, hv, hM.push hko (by omega) (by omega)⟩, by omega⟩
 dsimp only
 omega
 dsimp only
 refine ⟨by rfl, ?_, ?_⟩
 refine fin_ ?_
 ·(repeat' apply And.intro) <;> exact sbt_
 refine fin_ ?_
 ·(repeat' apply And.intro) <;> exact sbt_
 have ha1 : ¬ar (kd) = 1 := by have := hb67; (try simp at this); omega
 rw [if_neg ha1] at hv
 have hlt2 := hL.nxt (i + 1) _ hy1 (by rw [hw2']; simp)
 obtain ⟨⟨ww3, a3⟩, hy2⟩ := getE (l := L) (i := i + 2) hlt2
 have hwl3 : ww3.length ≤ 300 := (hL.dig _ _ hy2).2
 have hwd3 : dgW ww3 := (hL.dig _ _ hy2).1
 rw [hd_drop hy2] at hv
 dsimp only at hv
 have hmo := mostN_le ((kd : Nat) : Int)
 refine vc_seq_k fun N69 h69 => ?_
 refine u_reg ?_
 try refine lg_mk ?_
 refine u_mv (hq := by exact sq_) ?_
 refine u_bn (hq := by exact sq_) ?_
 refine u_mv (hq := by exact sq_) ?_
 refine lg_nil ?_
 refine h69 _ ?_; clear h69; try clear N69
 refine vc_seq_m (σ := Int × Int × Int) (fun s => (fun X c2 ix2 => nxI (nx2 L (i + 3) (leafM m ⟨kd, X, 0, 0⟩) z) z c2 ix2) (s.1) (s.2.1) (s.2.2))
  (fun s => (fun X c2 ix2 => [(2, .ptr 0 0 0), (3, .ptr 1 0 0), (4, .ptr 2 0 0), (5, .d (.bool true)), (6, .d (.int .i64 (i + 2 : Nat))), (7, .ptr 6 0 0), (8, .ptr 7 0 0), (9, .d (.int .i64 (kd : Nat))), (12, .d (.int .i64 X))]) (s.1) (s.2.1) (s.2.2))
  (fun s => (fun X c2 ix2 => [some (.one 24 [.d .nils]), some (.one 27 [.d (.int .i64 0), .d (.int .i64 0)]), rgB (rows eT L) (.sl 3 0 m.ns.length) (.sl 4 0 m.rs.length) (.sl 5 0 m.ops.length) (c2) (ix2), nsB m, ilB m.rs, ilB m.ops, some (.one 94 [.d (.str w), .d (.int .i64 (a : Nat))]), some (.one 27 [.d (.int .i64 1), .d (.int .i64 (a : Nat))])]) (s.1) (s.2.1) (s.2.2)) hnp ?_ ?_
 rintro ⟨X, c2, ix2⟩ hinv
 dsimp only at hinv ⊢
 have hP := hinv
 refine vc_seq_m (σ := Int × Int) (fun s => (fun c3 ix3 => nxI (RunT (L.drop (i + 4)) (leafM m ⟨kd, X, 0, 0⟩) false z) z c3 ix3) (s.1) (s.2))
  (fun s => (fun c3 ix3 => [(2, .ptr 0 0 0), (3, .ptr 1 0 0), (4, .ptr 2 0 0), (5, .d (.bool true)), (6, .d (.int .i64 (i + 2 : Nat))), (7, .ptr 6 0 0), (8, .ptr 7 0 0), (9, .d (.int .i64 (kd : Nat))), (12, .d (.int .i64 X))]) (s.1) (s.2))
  (fun s => (fun c3 ix3 => [some (.one 24 [.d .nils]), some (.one 27 [.d (.int .i64 0), .d (.int .i64 0)]), rgB (rows eT L) (.sl 3 0 m.ns.length) (.sl 4 0 m.rs.length) (.sl 5 0 m.ops.length) (c3) (ix3), nsB m, ilB m.rs, ilB m.ops, some (.one 94 [.d (.str w), .d (.int .i64 (a : Nat))]), some (.one 27 [.d (.int .i64 1), .d (.int .i64 (a : Nat))])]) (s.1) (s.2)) hnp ?_ ?_
 rintro ⟨c3, ix3⟩ hinv
 dsimp only at hinv ⊢
 have hP := hinv
 refine vc_seq_k fun N72 h72 => ?_
 refine u_reg ?_
 try refine lg_mk ?_
 refine u_mv (hq := by exact sq_) ?_
 refine u_bn (hq := by exact sq_) ?_
 refine u_mv (hq := by exact sq_) ?_
 refine lg_nil ?_
 refine h72 _ ?_; clear h72; try clear N72
 refine vc_seq_k fun N73 h73 => ?_
 refine u_reg ?_
 try refine lg_mk ?_
 iterate 2 refine u_mv (hq := by exact sq_) ?_
 refine u_nl (hq := by exact sq_) ?_
 refine u_pt (hq := by exact sq_) ?_
 refine u_ld (hq := by exact sq_) ?_
 iterate 2 refine u_mv (hq := by exact sq_) ?_
 refine u_bd (hq := by exact sq_) ?_
 refine u_bs (hq := by exact sq_) ?_
 refine u_ap (hq := by exact sq_) ?_
 refine u_nl (hq := by exact sq_) ?_
 refine u_pt (hq := by exact sq_) ?_
 refine u_st (hq := by exact sq_) ?_
 refine lg_nil ?_
 refine h73 _ ?_; clear h73; try clear N73
 refine vc_seq_k fun N74 h74 => ?_
 have hx := And.intro @hn1 hx0
 refine u_reg ?_
 try refine lg_mk ?_
 iterate 2 refine u_mv (hq := by exact sq_) ?_
 refine u_nl (hq := by exact sq_) ?_
 refine u_pt (hq := by exact sq_) ?_
 refine u_ld (hq := by exact sq_) ?_
 refine u_mv (hq := by exact sq_) ?_
 refine u_nl (hq := by exact sq_) ?_
 refine u_pt (hq := by exact sq_) ?_
 refine u_ld (hq := by exact sq_) ?_
 refine u_ln (hq := by exact sq_) ?_
 refine u_bn (hq := by exact sq_) ?_
 refine u_bs (hq := by exact sq_) ?_
 refine u_ap (hq := by exact sq_) ?_
 refine u_nl (hq := by exact sq_) ?_
 refine u_pt (hq := by exact sq_) ?_
 refine u_st (hq := by exact sq_) ?_
 refine lg_nil ?_
 have hx := hx0
 refine h74 _ ?_; clear h74; try clear N74
 refine u_reg ?_
 try refine lg_mk ?_
 refine u_mv (hq := by exact sq_) ?_
 refine lg_nil ?_
 refine h47 _ ?_; clear h47; try clear N47
 refine vc_exit ?_
 simp only [k_rules, Nat.reduceEqDiff, reduceIte, eq_self]
 refine h29 _ ?_; clear h29; try clear N29
 refine u_reg ?_
 try refine lg_mk ?_
 refine u_mv (hq := by exact so_) ?_
 refine u_bn (hq := by exact so_) ?_
 refine u_mv (hq := by exact so_) ?_
 refine lg_nil ?_
 refine h10 _ ⟨(i + 4, leafM m ⟨kd, X, 0, 0⟩, false, c3, ix3), ?_, ?_, [some 0, some 1, some 2, some 9, some 11, some 5], ?_⟩
 dsimp only
 refine ⟨?_, by omega⟩
 rcases hP with h | h
 exact .inl ⟨h.1, h.2, hM.leaf (by omega)⟩
 exact .inr h
 dsimp only
 omega
 dsimp only
 refine ⟨by rfl, ?_, ?_⟩
 refine fin_ ?_
 ·(repeat' apply And.intro) <;> exact sbt_
 refine fin_ ?_
 ·(repeat' apply And.intro) <;> exact sbt_
 intro N71 h71
 refine vc_seq_k fun N75 h75 => ?_
 rcases hP with ⟨rfl, ⟨ww4, a4⟩, hy3, hv⟩ | ⟨g1, g2⟩
 have f1 := True.intro
 have hip3 : (((i + 2 : Nat) : Int) + 1).toNat = i + 3 := by omega
 obtain ⟨hlt3, _⟩ := List.getElem?_eq_some_iff.1 hy3
 dsimp only at hv
 have hx := And.intro @hip3 (And.intro @hy3 (And.intro @eT.eq_1 hx0))
 refine u_reg ?_
 try refine lg_mk ?_
 refine u_mv (hq := by exact sq_) ?_
 refine u_nl (hq := by exact sq_) ?_
 iterate 2 refine u_pt (hq := by exact sq_) ?_
 refine u_ld (hq := by exact sq_) ?_
 refine u_bn (hq := by exact sq_) ?_
 refine u_mv (hq := by exact sq_) ?_
 refine v_mv (hq := by exact sq_) ?_
 refine v_nl (hq := by exact sq_) ?_
 refine v_pt (hq := by exact sq_) ?_
 refine v_ld (hq := by exact sq_) ?_
 refine v_mv (hq := by exact sq_) ?_
 refine v_bn (hq := by exact sq_) ?_
 iterate 2 refine v_pt (hq := by exact sq_) ?_
 refine v_ld (hq := by exact sq_) ?_
 refine v_bn (hq := by exact sq_) ?_
 refine u_pk (hq := by exact sq_) ?_
 refine lg_nil ?_
 have hx := hx0
 refine h75 _ ?_; clear h75; try clear N75
 refine u_cond (fun hb76 => ?_) (fun hb76 => ?_)
 have hw4 : ww4 ≠ [41] := by have := hb76; simpa using this
 rw [if_pos hw4] at hv
 have hx := And.intro @hip3 (And.intro @hy3 (And.intro @eT.eq_1 hx0))
 refine u_reg ?_
 try refine lg_mk ?_
 iterate 2 refine u_mv (hq := by exact sq_) ?_
 refine u_nl (hq := by exact sq_) ?_
 refine u_pt (hq := by exact sq_) ?_
 refine u_ld (hq := by exact sq_) ?_
 refine u_mv (hq := by exact sq_) ?_
 refine u_bn (hq := by exact sq_) ?_
 iterate 2 refine u_pt (hq := by exact sq_) ?_
 refine u_ld (hq := by exact sq_) ?_
 have hc := call_rule (E := (E_tkn.at_ 426)) (f := 26) (sp := Spec.pure faultG) rfl
 have hs := @faultG.eq_1
 refine u_cp (hq := by exact sq_) ?_
 refine u_nl (hq := by exact sq_) ?_
 refine u_pt (hq := by exact sq_) ?_
 refine u_st (hq := by exact sq_) ?_
 refine lg_nil ?_
 have hx := hx0
 refine h71 _ ⟨(1, a4), ?_, [some 0, some 1, some 2, some 3, some 4, some 5, some 6, some 7], ?_⟩
 dsimp only
 exact .inr ⟨by decide, by rw [hv], by rw [hv]⟩
 dsimp only
 refine ⟨by rfl, ?_, ?_⟩
 refine fin_ ?_
 ·(repeat' apply And.intro) <;> (first | (first | with_reducible rfl | exact Or.inl rfl | rfl) | exact cl_)
 refine fin_ ?_
 ·(repeat' apply And.intro) <;> (first | (first | with_reducible rfl | exact Or.inl rfl | rfl) | exact cl_)
 have hw4 : ww4 = [41] := by have := hb76; simpa using this
 rw [if_neg (fun h => h hw4)] at hv
 refine vc_skip ?_
 try simp only [k_rules]
 refine h71 _ ⟨(0, ix2), ?_, [some 0, some 1, some 2, some 3, some 4, some 5, some 6, some 7], ?_⟩
 dsimp only
 exact .inl ⟨rfl, hv⟩
 dsimp only
 refine ⟨by rfl, ?_, ?_⟩
 refine fin_ ?_
 ·(repeat' apply And.intro) <;> (first | (first | with_reducible rfl | exact Or.inl rfl | rfl) | exact cl_)
 refine fin_ ?_
 ·(repeat' apply And.intro) <;> (first | (first | with_reducible rfl | exact Or.inl rfl | rfl) | exact cl_)
 have f1 : (c2 = 0) = False := eq_false g1
 have hx := And.intro @f1 hx0
 refine u_reg ?_
 try refine lg_mk ?_
 refine u_mv (hq := by exact sq_) ?_
 refine u_nl (hq := by exact sq_) ?_
 iterate 2 refine u_pt (hq := by exact sq_) ?_
 refine u_ld (hq := by exact sq_) ?_
 refine u_bn (hq := by exact sq_) ?_
 refine u_mv (hq := by exact sq_) ?_
 refine lg_g0 ?_ ?_
 focus (exact gt_)
 refine lg_g0 ?_ ?_
 focus (exact gt_)
 refine lg_g0 ?_ ?_
 focus (exact gt_)
 refine lg_g0 ?_ ?_
 focus (exact gt_)
 refine lg_g0 ?_ ?_
 focus (exact gt_)
 refine lg_g0 ?_ ?_
 focus (exact gt_)
 refine lg_g0 ?_ ?_
 focus (exact gt_)
 refine lg_g0 ?_ ?_
 focus (exact gt_)
 refine lg_g0 ?_ ?_
 focus (exact gt_)
 refine lg_g0 ?_ ?_
 focus (exact gt_)
 refine u_pk (hq := by exact sq_) ?_
 refine lg_nil ?_
 have hx := hx0
 refine h75 _ ?_; clear h75; try clear N75
 refine u_cond (fun hb77 => ?_) (fun hb77 => ?_)
 ·first | omega | exact absurd trivial hb77 | contradiction | (simp_all; done)
 refine vc_skip ?_
 try simp only [k_rules]
 refine h71 _ ⟨(c2, ix2), ?_, [some 0, some 1, some 2, some 3, some 4, some 5, some 6, some 7], ?_⟩
 dsimp only
 exact .inr ⟨g1, g2⟩
 dsimp only
 refine ⟨by rfl, ?_, ?_⟩
 refine fin_ ?_
 ·(repeat' apply And.intro) <;> (first | (first | with_reducible rfl | exact Or.inl rfl | rfl) | exact cl_)
 refine fin_ ?_
 ·(repeat' apply And.intro) <;> (first | (first | with_reducible rfl | exact Or.inl rfl | rfl) | exact cl_)
 intro N70 h70
 rcases num_split (hL.dig _ _ hy2).1 (mostN ((kd : Nat) : Int)) 0 ix a3 with ⟨hn, hX, hC, hIx⟩ | ⟨n, hn, hnb, hX, ⟨hle, hC, hIx⟩ | ⟨hle, hC, hIx⟩⟩
 rw [hn] at hv
 dsimp only at hv
 have hx := And.intro @hip2 (And.intro @hy2 (And.intro @eT.eq_1 (And.intro @hX (And.intro @hC (And.intro @hIx hx0)))))
 refine vc_regG [39] hmix (by kernel_rfl) ?_
 try refine lg_mk ?_
 iterate 2 refine u_mv (hq := by exact so_) ?_
 refine u_nl (hq := by exact so_) ?_
 refine u_pt (hq := by exact so_) ?_
 refine u_ld (hq := by exact so_) ?_
 refine u_mv (hq := by exact so_) ?_
 refine u_pt (hq := by exact so_) ?_
 refine u_ld (hq := by exact so_) ?_
 refine u_mv (hq := by exact so_) ?_
 have hc := call_rule (E := (E_tkn.at_ 426)) (f := 39) (sp := Spec.pure mostG) rfl
 have hs := @mostG.eq_1
 refine u_cp (hq := by exact so_) ?_
 have hc := call_rule (E := (E_tkn.at_ 426)) (f := 61) (sp := Spec.gen numrG) rfl
 have hs := @numrG.eq_1
 refine u_hg (hq := by (first | (exact ⟨rfl, by omega, by omega, hwd3⟩) | exact sd_)) ?_
 refine u_mv (hq := by exact so_) ?_
 refine lg_nil ?_
 have hx := hx0
 refine h70 _ ⟨(0, 1, a3), ?_, [some 0, some 1, some 2, some 3, some 4, some 5, some 6, some 7], ?_⟩
 dsimp only
 exact .inr ⟨by decide, by rw [hv], by rw [hv]⟩
 dsimp only
 refine ⟨by rfl, ?_, ?_⟩
 refine fin_ ?_
 ·(repeat' apply And.intro) <;> (first | (first | with_reducible rfl | exact Or.inl rfl | rfl) | exact cl_)
 refine fin_ ?_
 ·(repeat' apply And.intro) <;> (first | (first | with_reducible rfl | exact Or.inl rfl | rfl) | exact cl_)
 rw [hn] at hv
 dsimp only at hv
 rw [if_pos (by first | exact hle | (show (n : Int) ≤ 59; exact hle))] at hv
 have hx := And.intro @hip2 (And.intro @hy2 (And.intro @eT.eq_1 (And.intro @hX (And.intro @hC (And.intro @hIx hx0)))))
 refine vc_regG [39] hmix (by kernel_rfl) ?_
 try refine lg_mk ?_
 iterate 2 refine u_mv (hq := by exact so_) ?_
 refine u_nl (hq := by exact so_) ?_
 refine u_pt (hq := by exact so_) ?_
 refine u_ld (hq := by exact so_) ?_
 refine u_mv (hq := by exact so_) ?_
 refine u_pt (hq := by exact so_) ?_
 refine u_ld (hq := by exact so_) ?_
 refine u_mv (hq := by exact so_) ?_
 have hc := call_rule (E := (E_tkn.at_ 426)) (f := 39) (sp := Spec.pure mostG) rfl
 have hs := @mostG.eq_1
 refine u_cp (hq := by exact so_) ?_
 have hc := call_rule (E := (E_tkn.at_ 426)) (f := 61) (sp := Spec.gen numrG) rfl
 have hs := @numrG.eq_1
 refine u_hg (hq := by (first | (exact ⟨rfl, by omega, by omega, hwd3⟩) | exact sd_)) ?_
 refine u_mv (hq := by exact so_) ?_
 refine lg_nil ?_
 have hx := hx0
 have hlt3 := hL.nxt (i + 2) _ hy2 (numV_ne' hn)
 obtain ⟨⟨ww4, a4⟩, hy3⟩ := getE (l := L) (i := i + 3) hlt3
 rw [hd_drop hy3] at hv
 refine h70 _ ⟨(n, 0, ix), ?_, [some 0, some 1, some 2, some 3, some 4, some 5, some 6, some 7], ?_⟩
 dsimp only
 exact .inl ⟨rfl, (ww4, a4), hy3, hv⟩
 dsimp only
 refine ⟨by rfl, ?_, ?_⟩
 refine fin_ ?_
 ·(repeat' apply And.intro) <;> (first | (first | with_reducible rfl | exact Or.inl rfl | rfl) | exact cl_)
 refine fin_ ?_
 ·(repeat' apply And.intro) <;> (first | (first | with_reducible rfl | exact Or.inl rfl | rfl) | exact cl_)
 rw [hn] at hv
 dsimp only at hv
 rw [if_neg (by first | exact hle | (show ¬(n : Int) ≤ 59; exact hle))] at hv
 have hx := And.intro @hip2 (And.intro @hy2 (And.intro @eT.eq_1 (And.intro @hX (And.intro @hC (And.intro @hIx hx0)))))
 refine vc_regG [39] hmix (by kernel_rfl) ?_
 try refine lg_mk ?_
 iterate 2 refine u_mv (hq := by exact so_) ?_
 refine u_nl (hq := by exact so_) ?_
 refine u_pt (hq := by exact so_) ?_
 refine u_ld (hq := by exact so_) ?_
 refine u_mv (hq := by exact so_) ?_
 refine u_pt (hq := by exact so_) ?_
 refine u_ld (hq := by exact so_) ?_
 refine u_mv (hq := by exact so_) ?_
 have hc := call_rule (E := (E_tkn.at_ 426)) (f := 39) (sp := Spec.pure mostG) rfl
 have hs := @mostG.eq_1
 refine u_cp (hq := by exact so_) ?_
 have hc := call_rule (E := (E_tkn.at_ 426)) (f := 61) (sp := Spec.gen numrG) rfl
 have hs := @numrG.eq_1
 refine u_hg (hq := by (first | (exact ⟨rfl, by omega, by omega, hwd3⟩) | exact sd_)) ?_
 refine u_mv (hq := by exact so_) ?_
 refine lg_nil ?_
 have hx := hx0
 refine h70 _ ⟨(n, 3, a3), ?_, [some 0, some 1, some 2, some 3, some 4, some 5, some 6, some 7], ?_⟩
 dsimp only
 exact .inr ⟨by decide, by rw [hv], by rw [hv]⟩
 dsimp only
 refine ⟨by rfl, ?_, ?_⟩
 refine fin_ ?_
 ·(repeat' apply And.intro) <;> (first | (first | with_reducible rfl | exact Or.inl rfl | rfl) | exact cl_)
 refine fin_ ?_
 ·(repeat' apply And.intro) <;> (first | (first | with_reducible rfl | exact Or.inl rfl | rfl) | exact cl_)
 have hbb : b = false := by have := hb34; simpa using this
 subst hbb
 refine vc_skip ?_
 try simp only [k_rules]
 refine h32 _ ?_; clear h32; try clear N32
 refine vc_seq_k fun N78 h78 => ?_
 refine u_reg ?_
 try refine lg_mk ?_
 refine u_mv (hq := by exact sq_) ?_
 refine lg_nil ?_
 refine h78 _ ?_; clear h78; try clear N78
 refine vc_seq_m (σ := Int) (fun s => (fun op => opW w = some op ∧ (op = 0 ∨ (14 ≤ op ∧ op ≤ 16))) s)
  (fun s => (fun op => [(2, .ptr 0 0 0), (3, .ptr 1 0 0), (4, .ptr 2 0 0), (5, .d (.bool false)), (6, .d (.int .i64 (i : Nat))), (7, .ptr 6 0 0), (8, .ptr 7 0 0), (13, .d (.int .i64 op))]) s)
  (fun s => (fun op => [some (.one 24 [.d .nils]), some (.one 27 [.d (.int .i64 0), .d (.int .i64 0)]), rgB (rows eT L) (.sl 3 0 m.ns.length) (.sl 4 0 m.rs.length) (.sl 5 0 m.ops.length) (0) (ix), nsB m, ilB m.rs, ilB m.ops, some (.one 94 [.d (.str w), .d (.int .i64 (a : Nat))]), some (.one 27 [.d (.int .i64 1), .d (.int .i64 (a : Nat))])]) s) hnp ?_ ?_
 rintro op hinv
 dsimp only at hinv ⊢
 obtain ⟨hop, hor⟩ := hinv
 have hv := inv_f hR hop
 dsimp only at hv
 refine vc_seq_m (σ := Mc) (fun s => (fun q => rdy op m = q ∧ okMc i q false ∧ redB op q = false) s)
  (fun s => (fun q => [(2, .ptr 0 0 0), (3, .ptr 1 0 0), (4, .ptr 2 0 0), (5, .d (.bool false)), (6, .d (.int .i64 (i : Nat))), (7, .ptr 6 0 0), (8, .ptr 7 0 0), (13, .d (.int .i64 op))]) s)
  (fun s => (fun q => [some (.one 24 [.d .nils]), some (.one 27 [.d (.int .i64 0), .d (.int .i64 0)]), rgB (rows eT L) (.sl 3 0 q.ns.length) (.sl 4 0 q.rs.length) (.sl 5 0 q.ops.length) (0) (ix), nsB q, ilB q.rs, ilB q.ops, some (.one 94 [.d (.str w), .d (.int .i64 (a : Nat))]), some (.one 27 [.d (.int .i64 1), .d (.int .i64 (a : Nat))])]) s) hnp ?_ ?_
 rintro q hinv
 dsimp only at hinv ⊢
 obtain ⟨hq, hMq, hrb⟩ := hinv
 rw [hq] at hv
 have hcq := hMq.cnt
 have hnq := nBin_le q.ops
 have hrq := hMq.rts
 refine vc_seq_k fun N81 h81 => ?_
 refine vc_seq_k fun N82 h82 => ?_
 refine u_reg ?_
 try refine lg_mk ?_
 refine u_mv (hq := by exact sq_) ?_
 refine u_bn (hq := by exact sq_) ?_
 refine lg_nil ?_
 refine h82 _ ?_; clear h82; try clear N82
 refine u_cond (fun hb83 => ?_) (fun hb83 => ?_)
 have hop0 : 0 < op := by have := hb83; (try simp at this); omega
 rw [if_pos hop0] at hv
 refine vc_seq_k fun N84 h84 => ?_
 refine u_reg ?_
 try refine lg_mk ?_
 iterate 2 refine u_mv (hq := by exact sq_) ?_
 refine u_nl (hq := by exact sq_) ?_
 refine u_pt (hq := by exact sq_) ?_
 refine u_ld (hq := by exact sq_) ?_
 refine u_mv (hq := by exact sq_) ?_
 refine u_bs (hq := by exact sq_) ?_
 refine u_ap (hq := by exact sq_) ?_
 refine u_nl (hq := by exact sq_) ?_
 refine u_pt (hq := by exact sq_) ?_
 refine u_st (hq := by exact sq_) ?_
 refine lg_nil ?_
 refine h84 _ ?_; clear h84; try clear N84
 refine vc_seq_k fun N85 h85 => ?_
 refine u_reg ?_
 try refine lg_mk ?_
 refine u_mv (hq := by exact sq_) ?_
 refine lg_nil ?_
 refine h85 _ ?_; clear h85; try clear N85
 refine vc_exit ?_
 simp only [k_rules, Nat.reduceEqDiff, reduceIte, eq_self]
 refine h29 _ ?_; clear h29; try clear N29
 refine u_reg ?_
 try refine lg_mk ?_
 refine u_mv (hq := by exact so_) ?_
 refine u_bn (hq := by exact so_) ?_
 refine u_mv (hq := by exact so_) ?_
 refine lg_nil ?_
 refine h10 _ ⟨(i + 1, pushM q op, true, 0, ix), ?_, ?_, [some 0, some 1, some 2, some 3, some 4, some 9], ?_⟩
 dsimp only
 exact ⟨.inl ⟨rfl, hv, hMq.pushb (by omega) (by omega) (by omega)⟩, by omega⟩
 dsimp only
 omega
 dsimp only
 refine ⟨by rfl, ?_, ?_⟩
 refine fin_ ?_
 ·(repeat' apply And.intro) <;> exact sbt_
 refine fin_ ?_
 ·(repeat' apply And.intro) <;> exact sbt_
 obtain rfl : op = 0 := by have := hb83; (try simp at this); omega
 rw [if_neg (by omega)] at hv
 have hw41 := opW_zero hop
 refine vc_skip ?_
 try simp only [k_rules]
 refine h81 _ ?_; clear h81; try clear N81
 refine vc_seq_k fun N86 h86 => ?_
 refine vc_seq_k fun N87 h87 => ?_
 obtain ⟨ns, rs, ops⟩ := q
 rcases q_cases2 w ops hw41 with ⟨rfl, rfl⟩ | ⟨rfl, l, k, rfl⟩ | ⟨rfl, rfl⟩ | ⟨rfl, l, k, rfl⟩
 have f1 : (([] : Bs) = []) = True := eq_true rfl
 have f2 : ((([] : List Int).length : Int) = 0) = True := eq_true rfl
 rw [if_neg (by simp), if_neg (by simp)] at hv
 have hx := And.intro @f1 (And.intro @f2 hx0)
 refine u_reg ?_
 try refine lg_mk ?_
 refine u_pt (hq := by exact sq_) ?_
 refine u_ld (hq := by exact sq_) ?_
 refine u_bn (hq := by exact sq_) ?_
 refine u_mv (hq := by exact sq_) ?_
 refine u_nl (hq := by exact sq_) ?_
 refine u_pt (hq := by exact sq_) ?_
 refine u_ld (hq := by exact sq_) ?_
 refine u_ln (hq := by exact sq_) ?_
 iterate 2 refine u_bn (hq := by exact sq_) ?_
 refine lg_nil ?_
 have hx := hx0
 refine h87 _ ?_; clear h87; try clear N87
 refine u_cond (fun hb88 => ?_) (fun hb88 => ?_)
 ·first | omega | exact absurd trivial hb88 | contradiction | (simp_all; done)
 refine vc_skip ?_
 try simp only [k_rules]
 refine h86 _ ?_; clear h86; try clear N86
 refine vc_seq_k fun N89 h89 => ?_
 have hx := And.intro @f1 hx0
 refine u_reg ?_
 try refine lg_mk ?_
 refine u_pt (hq := by exact sq_) ?_
 refine u_ld (hq := by exact sq_) ?_
 refine u_bn (hq := by exact sq_) ?_
 refine lg_nil ?_
 have hx := hx0
 refine h89 _ ?_; clear h89; try clear N89
 refine u_cond (fun hb90 => ?_) (fun hb90 => ?_)
 ·first | omega | exact absurd trivial hb90 | contradiction | (simp_all; done)
 refine vc_skip ?_
 try simp only [k_rules]
 refine h29 _ ?_; clear h29; try clear N29
 refine u_reg ?_
 try refine lg_mk ?_
 refine u_mv (hq := by exact so_) ?_
 refine u_bn (hq := by exact so_) ?_
 refine u_mv (hq := by exact so_) ?_
 refine lg_nil ?_
 refine h10 _ ⟨(i + 1, ⟨ns, rs, []⟩, false, 0, ix), ?_, ?_, [some 0, some 1, some 2, some 3, some 4, some 5], ?_⟩
 dsimp only
 exact ⟨.inl ⟨rfl, hv, hMq.le (by omega)⟩, by omega⟩
 dsimp only
 omega
 dsimp only
 refine ⟨by rfl, ?_, ?_⟩
 refine fin_ ?_
 ·(repeat' apply And.intro) <;> exact sbt_
 refine fin_ ?_
 ·(repeat' apply And.intro) <;> exact sbt_
 have f1 : (([] : Bs) = []) = True := eq_true rfl
 have f2 : (((l ++ [k]).length : Int) = 0) = False := eq_false (by simp; omega)
 rw [if_pos (by simp)] at hv
 have hx := And.intro @f1 (And.intro @f2 hx0)
 refine u_reg ?_
 try refine lg_mk ?_
 refine u_pt (hq := by exact sq_) ?_
 refine u_ld (hq := by exact sq_) ?_
 refine u_bn (hq := by exact sq_) ?_
 refine u_mv (hq := by exact sq_) ?_
 refine u_nl (hq := by exact sq_) ?_
 refine u_pt (hq := by exact sq_) ?_
 refine u_ld (hq := by exact sq_) ?_
 refine u_ln (hq := by exact sq_) ?_
 iterate 2 refine u_bn (hq := by exact sq_) ?_
 refine lg_nil ?_
 have hx := hx0
 refine h87 _ ?_; clear h87; try clear N87
 refine u_cond (fun hb91 => ?_) (fun hb91 => ?_)
 refine vc_seq_k fun N92 h92 => ?_
 refine u_reg ?_
 try refine lg_mk ?_
 refine u_mv (hq := by exact sq_) ?_
 refine u_ld (hq := by exact sq_) ?_
 refine u_nl (hq := by exact sq_) ?_
 refine u_pt (hq := by exact sq_) ?_
 refine u_st (hq := by exact sq_) ?_
 refine lg_nil ?_
 refine h92 _ ?_; clear h92; try clear N92
 refine vc_exit ?_
 simp only [k_rules, Nat.reduceEqDiff, reduceIte, eq_self]
 refine h29 _ ?_; clear h29; try clear N29
 refine u_reg ?_
 try refine lg_mk ?_
 refine u_mv (hq := by exact so_) ?_
 refine u_bn (hq := by exact so_) ?_
 refine u_mv (hq := by exact so_) ?_
 refine lg_nil ?_
 refine h10 _ ⟨(i + 1, ⟨ns, rs, l ++ [k]⟩, false, 1, a), ?_, ?_, [some 0, some 1, some 2, some 3, some 4, some 5], ?_⟩
 dsimp only
 exact ⟨.inr ⟨by decide, by rw [hv], by rw [hv]⟩, by omega⟩
 dsimp only
 omega
 dsimp only
 refine ⟨by rfl, ?_, ?_⟩
 refine fin_ ?_
 ·(repeat' apply And.intro) <;> exact sbt_
 refine fin_ ?_
 ·(repeat' apply And.intro) <;> exact sbt_
 ·first | omega | exact absurd trivial hb91 | contradiction | (simp_all; done)
 have f1 : (([41] : Bs) = []) = False := eq_false (by simp)
 have f2 : ((([] : List Int).length : Int) = 0) = True := eq_true rfl
 rw [if_pos (by simp)] at hv
 have hx := And.intro @f1 (And.intro @f2 hx0)
 refine u_reg ?_
 try refine lg_mk ?_
 refine u_pt (hq := by exact sq_) ?_
 refine u_ld (hq := by exact sq_) ?_
 refine u_bn (hq := by exact sq_) ?_
 refine u_mv (hq := by exact sq_) ?_
 refine u_nl (hq := by exact sq_) ?_
 refine u_pt (hq := by exact sq_) ?_
 refine u_ld (hq := by exact sq_) ?_
 refine u_ln (hq := by exact sq_) ?_
 iterate 2 refine u_bn (hq := by exact sq_) ?_
 refine lg_nil ?_
 have hx := hx0
 refine h87 _ ?_; clear h87; try clear N87
 refine u_cond (fun hb93 => ?_) (fun hb93 => ?_)
 refine vc_seq_k fun N94 h94 => ?_
 refine u_reg ?_
 try refine lg_mk ?_
 refine u_mv (hq := by exact sq_) ?_
 refine u_ld (hq := by exact sq_) ?_
 refine u_nl (hq := by exact sq_) ?_
 refine u_pt (hq := by exact sq_) ?_
 refine u_st (hq := by exact sq_) ?_
 refine lg_nil ?_
 refine h94 _ ?_; clear h94; try clear N94
 refine vc_exit ?_
 simp only [k_rules, Nat.reduceEqDiff, reduceIte, eq_self]
 refine h29 _ ?_; clear h29; try clear N29
 refine u_reg ?_
 try refine lg_mk ?_
 refine u_mv (hq := by exact so_) ?_
 refine u_bn (hq := by exact so_) ?_
 refine u_mv (hq := by exact so_) ?_
 refine lg_nil ?_
 refine h10 _ ⟨(i + 1, ⟨ns, rs, []⟩, false, 1, a), ?_, ?_, [some 0, some 1, some 2, some 3, some 4, some 5], ?_⟩
 dsimp only
 exact ⟨.inr ⟨by decide, by rw [hv], by rw [hv]⟩, by omega⟩
 dsimp only
 omega
 dsimp only
 refine ⟨by rfl, ?_, ?_⟩
 refine fin_ ?_
 ·(repeat' apply And.intro) <;> exact sbt_
 refine fin_ ?_
 ·(repeat' apply And.intro) <;> exact sbt_
 ·first | omega | exact absurd trivial hb93 | contradiction | (simp_all; done)
 have f1 : (([41] : Bs) = []) = False := eq_false (by simp)
 have hll : (l ++ [k]).length = l.length + 1 := by simp
 have hi1 : (((l.length + 1 : Nat) : Int) - 1).toNat = l.length := by omega
 have hk0 : (l ++ [k])[l.length]? = some k := by simp
 have hdl : List.take l.length (l ++ [k]) = l := List.take_left
 have f0 : (0 < ((l.length + 1 : Nat) : Int)) = True := eq_true (by omega)
 have hlb : l.length ≤ 1000 := by have h9 := hcq; dsimp only at h9; rw [hll] at h9; omega
 have f2 : (((l ++ [k]).length : Int) = 0) = False := eq_false (by rw [hll]; omega)
 rw [if_neg (by simp), if_pos rfl] at hv
 rw [lastO_snoc] at hv
 have hlk := redB_last hrb
 have hx := And.intro @f1 (And.intro @f2 hx0)
 refine u_reg ?_
 try refine lg_mk ?_
 refine u_pt (hq := by exact sq_) ?_
 refine u_ld (hq := by exact sq_) ?_
 refine u_bn (hq := by exact sq_) ?_
 refine u_mv (hq := by exact sq_) ?_
 refine u_nl (hq := by exact sq_) ?_
 refine u_pt (hq := by exact sq_) ?_
 refine u_ld (hq := by exact sq_) ?_
 refine u_ln (hq := by exact sq_) ?_
 iterate 2 refine u_bn (hq := by exact sq_) ?_
 refine lg_nil ?_
 have hx := hx0
 refine h87 _ ?_; clear h87; try clear N87
 refine u_cond (fun hb95 => ?_) (fun hb95 => ?_)
 ·first | omega | exact absurd trivial hb95 | contradiction | (simp_all; done)
 refine vc_skip ?_
 try simp only [k_rules]
 refine h86 _ ?_; clear h86; try clear N86
 refine vc_seq_k fun N96 h96 => ?_
 have hx := And.intro @f1 hx0
 refine u_reg ?_
 try refine lg_mk ?_
 refine u_pt (hq := by exact sq_) ?_
 refine u_ld (hq := by exact sq_) ?_
 refine u_bn (hq := by exact sq_) ?_
 refine lg_nil ?_
 have hx := hx0
 refine h96 _ ?_; clear h96; try clear N96
 refine u_cond (fun hb97 => ?_) (fun hb97 => ?_)
 refine vc_seq_k fun N98 h98 => ?_
 try dsimp only
 rw [hll]
 have hx := And.intro @hi1 (And.intro @hk0 (And.intro @eI.eq_1 hx0))
 refine u_reg ?_
 try refine lg_mk ?_
 refine u_mv (hq := by exact sq_) ?_
 refine u_nl (hq := by exact sq_) ?_
 refine u_pt (hq := by exact sq_) ?_
 refine u_ld (hq := by exact sq_) ?_
 refine u_mv (hq := by exact sq_) ?_
 refine u_nl (hq := by exact sq_) ?_
 refine u_pt (hq := by exact sq_) ?_
 refine u_ld (hq := by exact sq_) ?_
 refine u_ln (hq := by exact sq_) ?_
 refine u_bn (hq := by exact sq_) ?_
 refine u_pt (hq := by exact sq_) ?_
 refine u_ld (hq := by exact sq_) ?_
 refine u_bn (hq := by exact sq_) ?_
 refine lg_nil ?_
 have hx := hx0
 refine h98 _ ?_; clear h98; try clear N98
 refine u_cond (fun hb99 => ?_) (fun hb99 => ?_)
 have hk0n : k < 0 := by have := hb99; (try simp at this); omega
 rw [if_pos hk0n] at hv
 have hx := And.intro @mcB_rows hx0
 refine u_reg ?_
 try refine lg_mk ?_
 refine u_mv (hq := by exact sq_) ?_
 have hc := call_rule (E := (E_tkn.at_ 426)) (f := 63) (sp := Spec.gen redG) rfl
 have hs := @redG.eq_1
 refine u_hg (hq := by (first | (exact ⟨preR_ok (by simp), (hMq.red (by omega) rfl (.inr hk0n)).1⟩) | exact sd_)) ?_
 refine lg_nil ?_
 have hx := hx0
 refine h29 _ ?_; clear h29; try clear N29
 refine u_reg ?_
 try refine lg_mk ?_
 refine u_mv (hq := by exact so_) ?_
 refine u_bn (hq := by exact so_) ?_
 refine u_mv (hq := by exact so_) ?_
 refine lg_nil ?_
 refine h10 _ ⟨(i + 1, redM ⟨ns, rs, l ++ [k]⟩, false, 0, ix), ?_, ?_, [some 0, some 1, some 2, some 8, some 9, some 5], ?_⟩
 dsimp only
 exact ⟨.inl ⟨rfl, hv, (hMq.red (by omega) rfl (.inr hk0n)).2.le (by omega)⟩, by omega⟩
 dsimp only
 omega
 dsimp only
 refine ⟨by rfl, ?_, ?_⟩
 refine fin_ ?_
 ·(repeat' apply And.intro) <;> exact sbt_
 refine fin_ ?_
 ·(repeat' apply And.intro) <;> exact sbt_
 have hk0n : ¬k < 0 := by have := hb99; (try simp at this); omega
 rw [if_neg hk0n] at hv
 have hx := And.intro @hi1 hx0
 refine u_reg ?_
 try refine lg_mk ?_
 iterate 2 refine u_mv (hq := by exact sq_) ?_
 refine u_nl (hq := by exact sq_) ?_
 refine u_pt (hq := by exact sq_) ?_
 refine u_ld (hq := by exact sq_) ?_
 refine u_mv (hq := by exact sq_) ?_
 refine u_nl (hq := by exact sq_) ?_
 refine u_pt (hq := by exact sq_) ?_
 refine u_ld (hq := by exact sq_) ?_
 refine u_ln (hq := by exact sq_) ?_
 refine u_bn (hq := by exact sq_) ?_
 refine u_sl (hq := by exact sq_) ?_
 refine u_nl (hq := by exact sq_) ?_
 refine u_pt (hq := by exact sq_) ?_
 refine u_st (hq := by exact sq_) ?_
 refine lg_nil ?_
 have hx := hx0
 refine h29 _ ?_; clear h29; try clear N29
 refine vc_shortL 5 l.length rfl ?_
 simp only [updL, List.set, rows_take, hdl]
 refine u_reg ?_
 try refine lg_mk ?_
 refine u_mv (hq := by exact so_) ?_
 refine u_bn (hq := by exact so_) ?_
 refine u_mv (hq := by exact so_) ?_
 refine lg_nil ?_
 refine h10 _ ⟨(i + 1, popM ⟨ns, rs, l ++ [k]⟩, false, 0, ix), ?_, ?_, [some 0, some 1, some 2, some 3, some 4, some 5], ?_⟩
 dsimp only
 exact ⟨.inl ⟨rfl, hv, (hMq.pop rfl hlk).le (by omega)⟩, by omega⟩
 dsimp only
 omega
 dsimp only
 refine ⟨by rfl, ?_, ?_⟩
 refine fin_ ?_
 ·(repeat' apply And.intro) <;> exact sbt_
 refine fin_ ?_
 ·(repeat' apply And.intro) <;> exact sbt_
 ·first | omega | exact absurd trivial hb97 | contradiction | (simp_all; done)
 intro N80 h80
 refine vc_block ?_
 refine vc_loop_mk (σ := Mc) (fun s => (fun q => rdy op q = rdy op m ∧ okMc i q false) s)
  (fun s => (fun q => [(2, .ptr 0 0 0), (3, .ptr 1 0 0), (4, .ptr 2 0 0), (5, .d (.bool false)), (6, .d (.int .i64 (i : Nat))), (7, .ptr 6 0 0), (8, .ptr 7 0 0), (13, .d (.int .i64 op))]) s)
  (fun s => (fun q => [some (.one 24 [.d .nils]), some (.one 27 [.d (.int .i64 0), .d (.int .i64 0)]), rgB (rows eT L) (.sl 3 0 q.ns.length) (.sl 4 0 q.rs.length) (.sl 5 0 q.ops.length) (0) (ix), nsB q, ilB q.rs, ilB q.ops, some (.one 94 [.d (.str w), .d (.int .i64 (a : Nat))]), some (.one 27 [.d (.int .i64 1), .d (.int .i64 (a : Nat))])]) s) (fun s => (fun q => q.ops.length) s) hnp m ?_ [some 0, some 1, some 2, some 3, some 4, some 5, some 6, some 7] ?_ ?_
 dsimp only
 exact ⟨rfl, hM⟩
 dsimp only
 refine ⟨by rfl, ?_, ?_⟩
 refine fin_ ?_
 exact cl_
 refine fin_ ?_
 exact cl_
 rintro q hinv N100 h100
 dsimp only at hinv ⊢
 obtain ⟨j1, j2⟩ := hinv
 have hcq := j2.cnt
 refine vc_seq_k fun N101 h101 => ?_
 refine vc_seq_k fun N102 h102 => ?_
 obtain ⟨ns, rs, ops⟩ := q
 rcases q_cases ops op with rfl | ⟨l, k, rfl, g1⟩ | ⟨l, k, rfl, g1, g2⟩ | ⟨l, k, rfl, g1, g2, g3⟩ | ⟨l, k, rfl, g1, g2, g3⟩
 have f0 : (0 < ((([] : List Int).length : Nat) : Int)) = False := eq_false (by simp)
 have f1 := True.intro
 have f2 := True.intro
 have f3 := True.intro
 have hi1 := True.intro
 have hk0 := True.intro
 have hx := And.intro @f0 (And.intro @f1 (And.intro @f2 (And.intro @f3 (And.intro @hi1 (And.intro @hk0 (And.intro @eI.eq_1 hx0))))))
 refine vc_regO [62] [0, 1, 2, 3, 4, 5, 6, 7, 8, 9, 10, 11, 12, 13, 14, 15, 16, 17, 18, 19, 20, 21, 22, 23, 24, 25, 26, 27, 28, 29, 30, 31, 32, 33, 34, 35, 36, 37, 39, 38, 40, 41, 42, 43] hmix (by kernel_rfl) ?_
 simp only [pick_rules, list_rules]
 try refine lg_mk ?_
 refine u_mv (hq := by exact sq_) ?_
 refine u_nl (hq := by exact sq_) ?_
 refine u_pt (hq := by exact sq_) ?_
 refine u_ld (hq := by exact sq_) ?_
 refine u_ln (hq := by exact sq_) ?_
 refine u_bn (hq := by exact sq_) ?_
 refine u_mv (hq := by exact sq_) ?_
 refine lg_g0 ?_ ?_
 focus (exact gt_)
 refine lg_g0 ?_ ?_
 focus (exact gt_)
 refine lg_g0 ?_ ?_
 focus (exact gt_)
 refine lg_g0 ?_ ?_
 focus (exact gt_)
 refine lg_g0 ?_ ?_
 focus (exact gt_)
 refine lg_g0 ?_ ?_
 focus (exact gt_)
 refine lg_g0 ?_ ?_
 focus (exact gt_)
 refine lg_g0 ?_ ?_
 focus (exact gt_)
 refine lg_g0 ?_ ?_
 focus (exact gt_)
 refine lg_g0 ?_ ?_
 focus (exact gt_)
 refine lg_g0 ?_ ?_
 focus (exact gt_)
 refine lg_g0 ?_ ?_
 focus (exact gt_)
 refine lg_g0 ?_ ?_
 focus (exact gt_)
 refine lg_g0 ?_ ?_
 focus (exact gt_)
 refine u_pk (hq := by exact sq_) ?_
 refine u_mv (hq := by exact sq_) ?_
 refine lg_g0 ?_ ?_
 focus (exact gt_)
 refine lg_g0 ?_ ?_
 focus (exact gt_)
 refine lg_g0 ?_ ?_
 focus (exact gt_)
 refine lg_g0 ?_ ?_
 focus (exact gt_)
 refine lg_g0 ?_ ?_
 focus (exact gt_)
 refine lg_g0 ?_ ?_
 focus (exact gt_)
 refine lg_g0 ?_ ?_
 focus (exact gt_)
 refine lg_g0 ?_ ?_
 focus (exact gt_)
 refine lg_g0 ?_ ?_
 focus (exact gt_)
 refine lg_g0 ?_ ?_
 focus (exact gt_)
 refine lg_g0 ?_ ?_
 focus (exact gt_)
 refine lg_g0 ?_ ?_
 focus (exact gt_)
 refine lg_g0 ?_ ?_
 focus (exact gt_)
 refine lg_g0 ?_ ?_
 focus (exact gt_)
 refine lg_g0 ?_ ?_
 focus (exact gt_)
 refine lg_g0 ?_ ?_
 focus (exact gt_)
 refine lg_g0 ?_ ?_
 focus (exact gt_)
 refine lg_g0 ?_ ?_
 focus (exact gt_)
 refine lg_g0 ?_ ?_
 focus (exact gt_)
 refine lg_g0 ?_ ?_
 focus (exact gt_)
 refine u_pk (hq := by exact sq_) ?_
 refine lg_nil ?_
 have hx := hx0
 refine h102 _ ?_; clear h102; try clear N102
 refine u_cond (fun hb103 => ?_) (fun hb103 => ?_)
 ·first | omega | exact absurd trivial hb103 | contradiction | (simp_all; done)
 refine vc_exit ?_
 simp only [k_rules, Nat.reduceEqDiff, reduceIte, eq_self]
 refine h80 _ ⟨⟨ns, rs, []⟩, ?_, [some 0, some 1, some 2, some 3, some 4, some 5, some 6, some 7], ?_⟩
 dsimp only
 exact ⟨by rw [← j1]; exact rdy_no rfl, j2, rfl⟩
 dsimp only
 refine ⟨by rfl, ?_, ?_⟩
 refine fin_ ?_
 exact cl_
 refine fin_ ?_
 exact cl_
 have hll : (l ++ [k]).length = l.length + 1 := by simp
 have hi1 : (((l.length + 1 : Nat) : Int) - 1).toNat = l.length := by omega
 have hk0 : (l ++ [k])[l.length]? = some k := by simp
 have hdl : List.take l.length (l ++ [k]) = l := List.take_left
 have f0 : (0 < ((l.length + 1 : Nat) : Int)) = True := eq_true (by omega)
 have hlb : l.length ≤ 1000 := by have h9 := hcq; dsimp only at h9; rw [hll] at h9; omega
 try dsimp only
 rw [hll]
 have f1 : (0 ≤ lvO k) = False := eq_false (by omega)
 have f2 := True.intro
 have f3 := True.intro
 have hx := And.intro @f0 (And.intro @f1 (And.intro @f2 (And.intro @f3 (And.intro @hi1 (And.intro @hk0 (And.intro @eI.eq_1 hx0))))))
 refine vc_regO [62] [0, 1, 2, 3, 4, 5, 6, 7, 8, 9, 10, 11, 12, 13, 14, 15, 16, 17, 18, 19, 20, 21, 22, 23, 24, 25, 26, 27, 28, 29, 30, 31, 32, 33, 34, 35, 36, 37, 39, 38, 40, 41, 42, 43] hmix (by kernel_rfl) ?_
 simp only [pick_rules, list_rules]
 try refine lg_mk ?_
 refine u_mv (hq := by exact sq_) ?_
 refine u_nl (hq := by exact sq_) ?_
 refine u_pt (hq := by exact sq_) ?_
 refine u_ld (hq := by exact sq_) ?_
 refine u_ln (hq := by exact sq_) ?_
 refine u_bn (hq := by exact sq_) ?_
 refine u_mv (hq := by exact sq_) ?_
 refine v_mv (hq := by exact sq_) ?_
 refine v_nl (hq := by exact sq_) ?_
 refine v_pt (hq := by exact sq_) ?_
 refine v_ld (hq := by exact sq_) ?_
 refine v_mv (hq := by exact sq_) ?_
 refine v_nl (hq := by exact sq_) ?_
 refine v_pt (hq := by exact sq_) ?_
 refine v_ld (hq := by exact sq_) ?_
 refine v_ln (hq := by exact sq_) ?_
 refine v_bn (hq := by exact sq_) ?_
 refine v_pt (hq := by exact sq_) ?_
 refine v_ld (hq := by exact sq_) ?_
 have hc := call_rule (E := (E_tkn.at_ 426)) (f := 62) (sp := Spec.pure lvG) rfl
 have hs := @lvG.eq_1
 refine v_cp (hq := by exact sq_) ?_
 refine v_bn (hq := by exact sq_) ?_
 refine u_pk (hq := by exact sq_) ?_
 refine u_mv (hq := by exact sq_) ?_
 refine lg_g0 ?_ ?_
 focus (exact gt_)
 refine lg_g0 ?_ ?_
 focus (exact gt_)
 refine lg_g0 ?_ ?_
 focus (exact gt_)
 refine lg_g0 ?_ ?_
 focus (exact gt_)
 refine lg_g0 ?_ ?_
 focus (exact gt_)
 refine lg_g0 ?_ ?_
 focus (exact gt_)
 refine lg_g0 ?_ ?_
 focus (exact gt_)
 refine lg_g0 ?_ ?_
 focus (exact gt_)
 refine lg_g0 ?_ ?_
 focus (exact gt_)
 refine lg_g0 ?_ ?_
 focus (exact gt_)
 refine lg_g0 ?_ ?_
 focus (exact gt_)
 refine lg_g0 ?_ ?_
 focus (exact gt_)
 refine lg_g0 ?_ ?_
 focus (exact gt_)
 refine lg_g0 ?_ ?_
 focus (exact gt_)
 refine lg_g0 ?_ ?_
 focus (exact gt_)
 refine lg_g0 ?_ ?_
 focus (exact gt_)
 refine lg_g0 ?_ ?_
 focus (exact gt_)
 refine lg_g0 ?_ ?_
 focus (exact gt_)
 refine lg_g0 ?_ ?_
 focus (exact gt_)
 refine lg_g0 ?_ ?_
 focus (exact gt_)
 refine u_pk (hq := by exact sq_) ?_
 refine lg_nil ?_
 have hx := hx0
 refine h102 _ ?_; clear h102; try clear N102
 refine u_cond (fun hb104 => ?_) (fun hb104 => ?_)
 ·first | omega | exact absurd trivial hb104 | contradiction | (simp_all; done)
 refine vc_exit ?_
 simp only [k_rules, Nat.reduceEqDiff, reduceIte, eq_self]
 refine h80 _ ⟨⟨ns, rs, l ++ [k]⟩, ?_, [some 0, some 1, some 2, some 3, some 4, some 5, some 6, some 7], ?_⟩
 dsimp only
 have hb0 : redB op ⟨ns, rs, l ++ [k]⟩ = false := by rw [redB_of, decide_eq_false (p := 0 ≤ lvO k) (by omega)]; rfl
 exact ⟨by rw [← j1]; exact rdy_no hb0, j2, hb0⟩
 dsimp only
 refine ⟨by rfl, ?_, ?_⟩
 refine fin_ ?_
 exact cl_
 refine fin_ ?_
 exact cl_
 have hll : (l ++ [k]).length = l.length + 1 := by simp
 have hi1 : (((l.length + 1 : Nat) : Int) - 1).toNat = l.length := by omega
 have hk0 : (l ++ [k])[l.length]? = some k := by simp
 have hdl : List.take l.length (l ++ [k]) = l := List.take_left
 have f0 : (0 < ((l.length + 1 : Nat) : Int)) = True := eq_true (by omega)
 have hlb : l.length ≤ 1000 := by have h9 := hcq; dsimp only at h9; rw [hll] at h9; omega
 try dsimp only
 rw [hll]
 have f1 : (0 ≤ lvO k) = True := eq_true (by omega)
 have f2 : (op = 0) = True := eq_true (by omega)
 have f3 := True.intro
 have hx := And.intro @f0 (And.intro @f1 (And.intro @f2 (And.intro @f3 (And.intro @hi1 (And.intro @hk0 (And.intro @eI.eq_1 hx0))))))
 refine vc_regO [62] [0, 1, 2, 3, 4, 5, 6, 7, 8, 9, 10, 11, 12, 13, 14, 15, 16, 17, 18, 19, 20, 21, 22, 23, 24, 25, 26, 27, 28, 29, 30, 31, 32, 33, 34, 35, 36, 37, 39, 38, 40, 41, 42, 43] hmix (by kernel_rfl) ?_
 simp only [pick_rules, list_rules]
 try refine lg_mk ?_
 refine u_mv (hq := by exact sq_) ?_
 refine u_nl (hq := by exact sq_) ?_
 refine u_pt (hq := by exact sq_) ?_
 refine u_ld (hq := by exact sq_) ?_
 refine u_ln (hq := by exact sq_) ?_
 refine u_bn (hq := by exact sq_) ?_
 refine u_mv (hq := by exact sq_) ?_
 refine v_mv (hq := by exact sq_) ?_
 refine v_nl (hq := by exact sq_) ?_
 refine v_pt (hq := by exact sq_) ?_
 refine v_ld (hq := by exact sq_) ?_
 refine v_mv (hq := by exact sq_) ?_
 refine v_nl (hq := by exact sq_) ?_
 refine v_pt (hq := by exact sq_) ?_
 refine v_ld (hq := by exact sq_) ?_
 refine v_ln (hq := by exact sq_) ?_
 refine v_bn (hq := by exact sq_) ?_
 refine v_pt (hq := by exact sq_) ?_
 refine v_ld (hq := by exact sq_) ?_
 have hc := call_rule (E := (E_tkn.at_ 426)) (f := 62) (sp := Spec.pure lvG) rfl
 have hs := @lvG.eq_1
 refine v_cp (hq := by exact sq_) ?_
 refine v_bn (hq := by exact sq_) ?_
 refine u_pk (hq := by exact sq_) ?_
 refine u_mv (hq := by exact sq_) ?_
 refine v_mv (hq := by exact sq_) ?_
 refine v_bn (hq := by exact sq_) ?_
 refine v_mv (hq := by exact sq_) ?_
 refine lg_g0 ?_ ?_
 focus (exact gt_)
 refine lg_g0 ?_ ?_
 focus (exact gt_)
 refine lg_g0 ?_ ?_
 focus (exact gt_)
 refine lg_g0 ?_ ?_
 focus (exact gt_)
 refine lg_g0 ?_ ?_
 focus (exact gt_)
 refine lg_g0 ?_ ?_
 focus (exact gt_)
 refine lg_g0 ?_ ?_
 focus (exact gt_)
 refine lg_g0 ?_ ?_
 focus (exact gt_)
 refine lg_g0 ?_ ?_
 focus (exact gt_)
 refine lg_g0 ?_ ?_
 focus (exact gt_)
 refine lg_g0 ?_ ?_
 focus (exact gt_)
 refine lg_g0 ?_ ?_
 focus (exact gt_)
 refine lg_g0 ?_ ?_
 focus (exact gt_)
 refine lg_g0 ?_ ?_
 focus (exact gt_)
 refine lg_g0 ?_ ?_
 focus (exact gt_)
 refine lg_g0 ?_ ?_
 focus (exact gt_)
 refine v_pk (hq := by exact sq_) ?_
 refine u_pk (hq := by exact sq_) ?_
 refine lg_nil ?_
 have hx := hx0
 refine h102 _ ?_; clear h102; try clear N102
 refine u_cond (fun hb105 => ?_) (fun hb105 => ?_)
 refine vc_skip ?_
 try simp only [k_rules]
 refine h101 _ ?_; clear h101; try clear N101
 refine vc_block ?_
 have hx := And.intro @mcB_rows hx0
 refine u_reg ?_
 try refine lg_mk ?_
 refine u_mv (hq := by exact sq_) ?_
 have hc := call_rule (E := (E_tkn.at_ 426)) (f := 63) (sp := Spec.gen redG) rfl
 have hs := @redG.eq_1
 refine u_hg (hq := by (first | (exact ⟨preR_ok (by simp), (j2.red (by omega) rfl (.inl g1)).1⟩) | exact sd_)) ?_
 refine lg_nil ?_
 have hx := hx0
 refine h100 _ ⟨redM ⟨ns, rs, l ++ [k]⟩, ?_, ?_, [some 0, some 1, some 2, some 8, some 9, some 5, some 6, some 7], ?_⟩
 dsimp only
 exact ⟨(rdy_yes (by rw [redB_of, decide_eq_true g1, decide_eq_true g2]; rfl)).symm.trans j1, (j2.red (by omega) rfl (.inl g1)).2⟩
 dsimp only
 show (redM ⟨ns, rs, l ++ [k]⟩).ops.length < (l ++ [k]).length; rw [red_gen rfl, List.length_append]; exact Nat.lt_succ_self _
 dsimp only
 refine ⟨by rfl, ?_, ?_⟩
 refine fin_ ?_
 exact cl_
 refine fin_ ?_
 exact cl_
 ·first | omega | exact absurd trivial hb105 | contradiction | (simp_all; done)
 have hll : (l ++ [k]).length = l.length + 1 := by simp
 have hi1 : (((l.length + 1 : Nat) : Int) - 1).toNat = l.length := by omega
 have hk0 : (l ++ [k])[l.length]? = some k := by simp
 have hdl : List.take l.length (l ++ [k]) = l := List.take_left
 have f0 : (0 < ((l.length + 1 : Nat) : Int)) = True := eq_true (by omega)
 have hlb : l.length ≤ 1000 := by have h9 := hcq; dsimp only at h9; rw [hll] at h9; omega
 try dsimp only
 rw [hll]
 have f1 : (0 ≤ lvO k) = True := eq_true (by omega)
 have f2 : (op = 0) = False := eq_false (by omega)
 have f3 : (lvO op ≤ lvO k) = True := eq_true (by omega)
 have hx := And.intro @f0 (And.intro @f1 (And.intro @f2 (And.intro @f3 (And.intro @hi1 (And.intro @hk0 (And.intro @eI.eq_1 hx0))))))
 refine vc_regO [62] [0, 1, 2, 3, 4, 5, 6, 7, 8, 9, 10, 11, 12, 13, 14, 15, 16, 17, 18, 19, 20, 21, 22, 23, 24, 25, 26, 27, 28, 29, 30, 31, 32, 33, 34, 35, 36, 37, 39, 38, 40, 41, 42, 43] hmix (by kernel_rfl) ?_
 simp only [pick_rules, list_rules]
 try refine lg_mk ?_
 refine u_mv (hq := by exact sq_) ?_
 refine u_nl (hq := by exact sq_) ?_
 refine u_pt (hq := by exact sq_) ?_
 refine u_ld (hq := by exact sq_) ?_
 refine u_ln (hq := by exact sq_) ?_
 refine u_bn (hq := by exact sq_) ?_
 refine u_mv (hq := by exact sq_) ?_
 refine v_mv (hq := by exact sq_) ?_
 refine v_nl (hq := by exact sq_) ?_
 refine v_pt (hq := by exact sq_) ?_
 refine v_ld (hq := by exact sq_) ?_
 refine v_mv (hq := by exact sq_) ?_
 refine v_nl (hq := by exact sq_) ?_
 refine v_pt (hq := by exact sq_) ?_
 refine v_ld (hq := by exact sq_) ?_
 refine v_ln (hq := by exact sq_) ?_
 refine v_bn (hq := by exact sq_) ?_
 refine v_pt (hq := by exact sq_) ?_
 refine v_ld (hq := by exact sq_) ?_
 have hc := call_rule (E := (E_tkn.at_ 426)) (f := 62) (sp := Spec.pure lvG) rfl
 have hs := @lvG.eq_1
 refine v_cp (hq := by exact sq_) ?_
 refine v_bn (hq := by exact sq_) ?_
 refine u_pk (hq := by exact sq_) ?_
 refine u_mv (hq := by exact sq_) ?_
 refine v_mv (hq := by exact sq_) ?_
 refine v_bn (hq := by exact sq_) ?_
 iterate 2 refine v_mv (hq := by exact sq_) ?_
 refine v_nl (hq := by exact sq_) ?_
 refine v_pt (hq := by exact sq_) ?_
 refine v_ld (hq := by exact sq_) ?_
 refine v_mv (hq := by exact sq_) ?_
 refine v_nl (hq := by exact sq_) ?_
 refine v_pt (hq := by exact sq_) ?_
 refine v_ld (hq := by exact sq_) ?_
 refine v_ln (hq := by exact sq_) ?_
 refine v_bn (hq := by exact sq_) ?_
 refine v_pt (hq := by exact sq_) ?_
 refine v_ld (hq := by exact sq_) ?_
 refine v_mv (hq := by exact sq_) ?_
 have hc := call_rule (E := (E_tkn.at_ 426)) (f := 62) (sp := Spec.pure lvG) rfl
 have hs := @lvG.eq_1
 refine v_cp (hq := by exact sq_) ?_
 have hc := call_rule (E := (E_tkn.at_ 426)) (f := 62) (sp := Spec.pure lvG) rfl
 have hs := @lvG.eq_1
 refine v_cp (hq := by exact sq_) ?_
 refine v_bn (hq := by exact sq_) ?_
 refine v_pk (hq := by exact sq_) ?_
 refine u_pk (hq := by exact sq_) ?_
 refine lg_nil ?_
 have hx := hx0
 refine h102 _ ?_; clear h102; try clear N102
 refine u_cond (fun hb106 => ?_) (fun hb106 => ?_)
 refine vc_skip ?_
 try simp only [k_rules]
 refine h101 _ ?_; clear h101; try clear N101
 refine vc_block ?_
 have hx := And.intro @mcB_rows hx0
 refine u_reg ?_
 try refine lg_mk ?_
 refine u_mv (hq := by exact sq_) ?_
 have hc := call_rule (E := (E_tkn.at_ 426)) (f := 63) (sp := Spec.gen redG) rfl
 have hs := @redG.eq_1
 refine u_hg (hq := by (first | (exact ⟨preR_ok (by simp), (j2.red (by omega) rfl (.inl g1)).1⟩) | exact sd_)) ?_
 refine lg_nil ?_
 have hx := hx0
 refine h100 _ ⟨redM ⟨ns, rs, l ++ [k]⟩, ?_, ?_, [some 0, some 1, some 2, some 8, some 9, some 5, some 6, some 7], ?_⟩
 dsimp only
 exact ⟨(rdy_yes (by rw [redB_of, decide_eq_true g1, decide_eq_true g3]; simp)).symm.trans j1, (j2.red (by omega) rfl (.inl g1)).2⟩
 dsimp only
 show (redM ⟨ns, rs, l ++ [k]⟩).ops.length < (l ++ [k]).length; rw [red_gen rfl, List.length_append]; exact Nat.lt_succ_self _
 dsimp only
 refine ⟨by rfl, ?_, ?_⟩
 refine fin_ ?_
 exact cl_
 refine fin_ ?_
 exact cl_
 ·first | omega | exact absurd trivial hb106 | contradiction | (simp_all; done)
 have hll : (l ++ [k]).length = l.length + 1 := by simp
 have hi1 : (((l.length + 1 : Nat) : Int) - 1).toNat = l.length := by omega
 have hk0 : (l ++ [k])[l.length]? = some k := by simp
 have hdl : List.take l.length (l ++ [k]) = l := List.take_left
 have f0 : (0 < ((l.length + 1 : Nat) : Int)) = True := eq_true (by omega)
 have hlb : l.length ≤ 1000 := by have h9 := hcq; dsimp only at h9; rw [hll] at h9; omega
 try dsimp only
 rw [hll]
 have f1 : (0 ≤ lvO k) = True := eq_true (by omega)
 have f2 : (op = 0) = False := eq_false (by omega)
 have f3 : (lvO op ≤ lvO k) = False := eq_false (by omega)
 have hx := And.intro @f0 (And.intro @f1 (And.intro @f2 (And.intro @f3 (And.intro @hi1 (And.intro @hk0 (And.intro @eI.eq_1 hx0))))))
 refine vc_regO [62] [0, 1, 2, 3, 4, 5, 6, 7, 8, 9, 10, 11, 12, 13, 14, 15, 16, 17, 18, 19, 20, 21, 22, 23, 24, 25, 26, 27, 28, 29, 30, 31, 32, 33, 34, 35, 36, 37, 39, 38, 40, 41, 42, 43] hmix (by kernel_rfl) ?_
 simp only [pick_rules, list_rules]
 try refine lg_mk ?_
 refine u_mv (hq := by exact sq_) ?_
 refine u_nl (hq := by exact sq_) ?_
 refine u_pt (hq := by exact sq_) ?_
 refine u_ld (hq := by exact sq_) ?_
 refine u_ln (hq := by exact sq_) ?_
 refine u_bn (hq := by exact sq_) ?_
 refine u_mv (hq := by exact sq_) ?_
 refine v_mv (hq := by exact sq_) ?_
 refine v_nl (hq := by exact sq_) ?_
 refine v_pt (hq := by exact sq_) ?_
 refine v_ld (hq := by exact sq_) ?_
 refine v_mv (hq := by exact sq_) ?_
 refine v_nl (hq := by exact sq_) ?_
 refine v_pt (hq := by exact sq_) ?_
 refine v_ld (hq := by exact sq_) ?_
 refine v_ln (hq := by exact sq_) ?_
 refine v_bn (hq := by exact sq_) ?_
 refine v_pt (hq := by exact sq_) ?_
 refine v_ld (hq := by exact sq_) ?_
 have hc := call_rule (E := (E_tkn.at_ 426)) (f := 62) (sp := Spec.pure lvG) rfl
 have hs := @lvG.eq_1
 refine v_cp (hq := by exact sq_) ?_
 refine v_bn (hq := by exact sq_) ?_
 refine u_pk (hq := by exact sq_) ?_
 refine u_mv (hq := by exact sq_) ?_
 refine v_mv (hq := by exact sq_) ?_
 refine v_bn (hq := by exact sq_) ?_
 iterate 2 refine v_mv (hq := by exact sq_) ?_
 refine v_nl (hq := by exact sq_) ?_
 refine v_pt (hq := by exact sq_) ?_
 refine v_ld (hq := by exact sq_) ?_
 refine v_mv (hq := by exact sq_) ?_
 refine v_nl (hq := by exact sq_) ?_
 refine v_pt (hq := by exact sq_) ?_
 refine v_ld (hq := by exact sq_) ?_
 refine v_ln (hq := by exact sq_) ?_
 refine v_bn (hq := by exact sq_) ?_
 refine v_pt (hq := by exact sq_) ?_
 refine v_ld (hq := by exact sq_) ?_
 refine v_mv (hq := by exact sq_) ?_
 have hc := call_rule (E := (E_tkn.at_ 426)) (f := 62) (sp := Spec.pure lvG) rfl
 have hs := @lvG.eq_1
 refine v_cp (hq := by exact sq_) ?_
 have hc := call_rule (E := (E_tkn.at_ 426)) (f := 62) (sp := Spec.pure lvG) rfl
 have hs := @lvG.eq_1
 refine v_cp (hq := by exact sq_) ?_
 refine v_bn (hq := by exact sq_) ?_
 refine v_pk (hq := by exact sq_) ?_
 refine u_pk (hq := by exact sq_) ?_
 refine lg_nil ?_
 have hx := hx0
 refine h102 _ ?_; clear h102; try clear N102
 refine u_cond (fun hb107 => ?_) (fun hb107 => ?_)
 ·first | omega | exact absurd trivial hb107 | contradiction | (simp_all; done)
 refine vc_exit ?_
 simp only [k_rules, Nat.reduceEqDiff, reduceIte, eq_self]
 refine h80 _ ⟨⟨ns, rs, l ++ [k]⟩, ?_, [some 0, some 1, some 2, some 3, some 4, some 5, some 6, some 7], ?_⟩
 dsimp only
 have hb0 : redB op ⟨ns, rs, l ++ [k]⟩ = false := by rw [redB_of, decide_eq_false g2, decide_eq_false (p := lvO op ≤ lvO k) (by omega)]; simp
 exact ⟨by rw [← j1]; exact rdy_no hb0, j2, hb0⟩
 dsimp only
 refine ⟨by rfl, ?_, ?_⟩
 refine fin_ ?_
 exact cl_
 refine fin_ ?_
 exact cl_
 intro N79 h79
 refine vc_seq_k fun N108 h108 => ?_
 refine u_reg ?_
 try refine lg_mk ?_
 refine u_pt (hq := by exact sq_) ?_
 refine u_ld (hq := by exact sq_) ?_
 refine lg_nil ?_
 refine h108 _ ?_; clear h108; try clear N108
 refine vc_block ?_
 refine vc_seq_k fun N109 h109 => ?_
 refine u_reg ?_
 try refine lg_mk ?_
 refine u_bn (hq := by exact sq_) ?_
 refine u_mv (hq := by exact sq_) ?_
 refine lg_nil ?_
 refine h109 _ ?_; clear h109; try clear N109
 refine u_cond (fun hb110 => ?_) (fun hb110 => ?_)
 refine u_reg ?_
 try refine lg_mk ?_
 refine u_mv (hq := by exact sq_) ?_
 refine lg_nil ?_
 refine h79 _ ⟨14, ?_, [some 0, some 1, some 2, some 3, some 4, some 5, some 6, some 7], ?_⟩
 dsimp only
 exact ⟨by unfold opW; rw [if_pos (by have := hb110; simpa using this)], by omega⟩
 dsimp only
 refine ⟨by rfl, ?_, ?_⟩
 refine fin_ ?_
 exact cl_
 refine fin_ ?_
 exact cl_
 refine vc_seq_k fun N111 h111 => ?_
 refine u_reg ?_
 try refine lg_mk ?_
 refine u_bn (hq := by exact sq_) ?_
 refine u_mv (hq := by exact sq_) ?_
 refine lg_nil ?_
 refine h111 _ ?_; clear h111; try clear N111
 refine u_cond (fun hb112 => ?_) (fun hb112 => ?_)
 refine u_reg ?_
 try refine lg_mk ?_
 refine u_mv (hq := by exact sq_) ?_
 refine lg_nil ?_
 refine h79 _ ⟨15, ?_, [some 0, some 1, some 2, some 3, some 4, some 5, some 6, some 7], ?_⟩
 dsimp only
 exact ⟨by unfold opW; rw [if_neg (by have := hb110; simpa using this), if_pos (by have := hb112; simpa using this)], by omega⟩
 dsimp only
 refine ⟨by rfl, ?_, ?_⟩
 refine fin_ ?_
 exact cl_
 refine fin_ ?_
 exact cl_
 refine vc_seq_k fun N113 h113 => ?_
 refine u_reg ?_
 try refine lg_mk ?_
 refine u_bn (hq := by exact sq_) ?_
 refine u_mv (hq := by exact sq_) ?_
 refine lg_nil ?_
 refine h113 _ ?_; clear h113; try clear N113
 refine u_cond (fun hb114 => ?_) (fun hb114 => ?_)
 refine u_reg ?_
 try refine lg_mk ?_
 refine u_mv (hq := by exact sq_) ?_
 refine lg_nil ?_
 refine h79 _ ⟨16, ?_, [some 0, some 1, some 2, some 3, some 4, some 5, some 6, some 7], ?_⟩
 dsimp only
 exact ⟨by unfold opW; rw [if_neg (by have := hb110; simpa using this), if_neg (by have := hb112; simpa using this), if_pos (by have := hb114; simpa using this)], by omega⟩
 dsimp only
 refine ⟨by rfl, ?_, ?_⟩
 refine fin_ ?_
 exact cl_
 refine fin_ ?_
 exact cl_
 refine vc_seq_k fun N115 h115 => ?_
 refine vc_seq_k fun N116 h116 => ?_
 refine u_reg ?_
 try refine lg_mk ?_
 refine u_bn (hq := by exact sq_) ?_
 refine u_mv (hq := by exact sq_) ?_
 refine lg_nil ?_
 refine h116 _ ?_; clear h116; try clear N116
 refine u_cond (fun hb117 => ?_) (fun hb117 => ?_)
 refine vc_skip ?_
 try simp only [k_rules]
 refine h115 _ ?_; clear h115; try clear N115
 refine u_cond (fun hb118 => ?_) (fun hb118 => ?_)
 refine vc_skip ?_
 try simp only [k_rules]
 refine h79 _ ⟨0, ?_, [some 0, some 1, some 2, some 3, some 4, some 5, some 6, some 7], ?_⟩
 dsimp only
 exact ⟨by unfold opW; rw [if_neg (by have := hb110; simpa using this), if_neg (by have := hb112; simpa using this), if_neg (by have := hb114; simpa using this), if_pos (by have := hb118; first | exact Or.inl (by simpa using this) | exact Or.inr (by simpa using this))], by omega⟩
 dsimp only
 refine ⟨by rfl, ?_, ?_⟩
 refine fin_ ?_
 exact cl_
 refine fin_ ?_
 exact cl_
 ·exfalso; first | omega | contradiction | (simp_all; done) | (simp_all; omega)
 have h41 : ¬w = [41] := by have := hb117; simpa using this
 refine u_reg ?_
 try refine lg_mk ?_
 refine u_bn (hq := by exact sq_) ?_
 refine u_mv (hq := by exact sq_) ?_
 refine lg_nil ?_
 refine h115 _ ?_; clear h115; try clear N115
 refine u_cond (fun hb119 => ?_) (fun hb119 => ?_)
 refine vc_skip ?_
 try simp only [k_rules]
 refine h79 _ ⟨0, ?_, [some 0, some 1, some 2, some 3, some 4, some 5, some 6, some 7], ?_⟩
 dsimp only
 exact ⟨by unfold opW; rw [if_neg (by have := hb110; simpa using this), if_neg (by have := hb112; simpa using this), if_neg (by have := hb114; simpa using this), if_pos (by have := hb119; first | exact Or.inl (by simpa using this) | exact Or.inr (by simpa using this))], by omega⟩
 dsimp only
 refine ⟨by rfl, ?_, ?_⟩
 refine fin_ ?_
 exact cl_
 refine fin_ ?_
 exact cl_
 have hop : opW w = none := by unfold opW; rw [if_neg (by have := hb110; simpa using this), if_neg (by have := hb112; simpa using this), if_neg (by have := hb114; simpa using this), if_neg (fun h => h.elim h41 (by have := hb119; simpa using this))]
 have hv := inv_f0 hR hop
 dsimp only at hv
 refine vc_seq_k fun N120 h120 => ?_
 refine u_reg ?_
 try refine lg_mk ?_
 refine u_mv (hq := by exact sq_) ?_
 refine u_ld (hq := by exact sq_) ?_
 refine u_nl (hq := by exact sq_) ?_
 refine u_pt (hq := by exact sq_) ?_
 refine u_st (hq := by exact sq_) ?_
 refine lg_nil ?_
 refine h120 _ ?_; clear h120; try clear N120
 refine vc_exit ?_
 simp only [k_rules, Nat.reduceEqDiff, reduceIte, eq_self]
 refine h29 _ ?_; clear h29; try clear N29
 refine u_reg ?_
 try refine lg_mk ?_
 refine u_mv (hq := by exact so_) ?_
 refine u_bn (hq := by exact so_) ?_
 refine u_mv (hq := by exact so_) ?_
 refine lg_nil ?_
 refine h10 _ ⟨(i + 1, m, false, 1, a), ?_, ?_, [some 0, some 1, some 2, some 3, some 4, some 5], ?_⟩
 dsimp only
 exact ⟨.inr ⟨by decide, by rw [hv], by rw [hv]⟩, by omega⟩
 dsimp only
 omega
 dsimp only
 refine ⟨by rfl, ?_, ?_⟩
 refine fin_ ?_
 ·(repeat' apply And.intro) <;> exact sbt_
 refine fin_ ?_
 ·(repeat' apply And.intro) <;> exact sbt_
 ·first | omega | exact absurd trivial hb28 | contradiction | (simp_all; done)
 cases hg

def E_prr : Env Tryd.prog := E_tkn.add 30 (Spec.pure parsG) prr_meets (by kernel_rfl)
end Go.Proofs.YtlbjffdaooadoaaDoor
