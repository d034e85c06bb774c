/- Walks, printed by wip/gen/walk.py. -/
import Derived.Test.YtlbjffdaooadoaaDoorT55
import Derived.Test.YtlbjffdaooadoaaDoorV5
set_option linter.all false
set_option maxRecDepth 100000
set_option maxHeartbeats 4000000
namespace Go.Proofs.YtlbjffdaooadoaaDoor
open Go Go.Vc Go.RowKit
def wkN (n : Nd) : Bool := decide (8 ≤ n.kd) && decide (n.kd ≤ 13)
def costK (q : List Nd) : Nat → Int
  | 0 => 0
  | i + 1 => costK q i + 1 + if wkN (q.getD i default) = true then 10 else 0
theorem costK_le (q : List Nd) : ∀ i : Nat, 0 ≤ costK q i ∧ costK q i ≤ 11 * (i : Int)
  | 0 => by simp [costK]
  | i + 1 => by
    have := costK_le q i
    unfold costK
    split <;> omega

theorem sim_all : ∀ n, Meets Tryd.prog 35 (Spec.pure (simG n))
  | 0 => meets_voidP fun a p r h hp => by
    unfold simG at h
    split at h
    · simp only [Option.some.injEq, Prod.mk.injEq] at h
      obtain ⟨rfl, _⟩ := h
      have := szT_pos (okT_ne hp.2.1)
      have := hp.2.2.1
      omega
    · cases h
  | n + 1 => sim_step n (sim_all n)
/-- The tree of a query; a query simplified: code, index, nodes; its cost. -/
def treQ (q : List Nd) : Tr := (opnT q 41 (q.length - 1)).getD .nil
def optQ (q : List Nd) : Int × Int × List Nd := if valQ q ≠ (0, 0) then ((valQ q).1, (valQ q).2, []) else (0, 0, lsT 0 (simT (treQ q)))
def optG : List AV → Option (Prop × AV)
  | [.agg [.d (.sl xs)]] => some (xs = rows eN (dN xs) ∧ (dN xs).length ≤ 9223372036854775807, .tup [.agg [.d (.sl (rows eN (optQ (dN xs)).2.2))], .agg [.d (.int .i64 (optQ (dN xs)).1), .d (.int .i64 (optQ (dN xs)).2.1)]])
  | _ => none
theorem tre_ok {q : List Nd} (h : valQ q = (0, 0)) : ∃ R, opnT q 41 (q.length - 1) = some R ∧ okT R ∧ szT R ≤ q.length ∧ treQ q = R := by
  obtain ⟨hok, _⟩ := ok_of_val h
  have h1 := hok.1
  have h2 := hok.2.1
  obtain ⟨R, g1, g2, g3⟩ := opn_tot hok 41 (q.length - 1) (by omega) (by omega)
  have := (szI_le hok (i := q.length - 1) (by omega)).2
  exact ⟨R, g1, g2, by omega, by unfold treQ; rw [g1]; rfl⟩
theorem ln_N : ([] : List Nd).length = 0 := rfl
theorem na_N (l : List Nd) : [] ++ l = l := rfl
def cstQ (q : List Nd) : Int × Int × Int := if valQ q ≠ (0, 0) then ((valQ q).1, (valQ q).2, 0) else (0, 0, costK q q.length)
def cstG : List AV → Option (Prop × AV)
  | [.agg [.d (.sl xs)]] => some (xs = rows eN (dN xs) ∧ (dN xs).length ≤ 9223372036854775807, .tup [.d (.int .i64 (cstQ (dN xs)).2.2), .agg [.d (.int .i64 (cstQ (dN xs)).1), .d (.int .i64 (cstQ (dN xs)).2.1)]])
  | _ => none

def E_simA : Env Tryd.prog := E_two.add 35 (Spec.pure (simG 900)) (sim_all 900) (by kernel_rfl)

theorem opt_meets : Meets Tryd.prog 15 (Spec.pure optG) := by
 refine meets_fun (E_simA.at_ 23) Tryd.func15 rfl rfl rfl ?_
 intro args p r hg hp
 unfold optG at hg
 split at hg
 rename_i xs
 simp only [Option.some.injEq, Prod.mk.injEq] at hg
 obtain ⟨rfl, rfl⟩ := hg
 obtain ⟨he, hl⟩ := hp
 generalize dN xs = q at *
 subst he
 have hT : (E_simA).X = T := rfl
 have hx0 := And.intro @dec_t (And.intro @dec_f (And.intro @rect_eN (And.intro @dN_rows (And.intro @Int.toNat_natCast (And.intro @tD_dT (And.intro @tD_nd (And.intro @tD_lf (And.intro @cl_dT (And.intro @cm_dT (And.intro @dT_nd (And.intro @dT_nil (And.intro @eq_dT (And.intro @ne_dT (And.intro @getD_tr (And.intro @lsT_len (And.intro @dN_nil (And.intro @ln_N (And.intro @na_N (And.intro @Nat.zero_add @Tryd.results15)))))))))))))))))))
 have hx := hx0
 refine ⟨by rfl, ?_⟩
 intro F W0 hnp hmk
 refine vc_seq_k fun N1 h1 => ?_
 refine u_reg ?_
 try refine lg_mk ?_
 refine u_bx ?_
 iterate 2 refine u_al ?_
 refine lg_nil ?_
 refine h1 _ ?_; clear h1; try clear N1
 refine vc_seq_k fun N2 h2 => ?_
 refine vc_seq_k fun N3 h3 => ?_
 refine u_reg ?_
 try refine lg_mk ?_
 refine u_ld ?_
 have hc := call_rule (E := (E_simA.at_ 23)) (f := 24) (sp := Spec.pure valG) rfl
 have hs := @valG.eq_1
 refine u_cp ?_
 refine u_al ?_
 refine u_st ?_
 refine lg_nil ?_
 refine h3 _ ?_; clear h3; try clear N3
 refine vc_seq_k fun N4 h4 => ?_
 by_cases hv : valQ q = (0, 0)
 obtain ⟨R, g1, g2, g3, g4⟩ := tre_ok hv
 have hokN := ok_N (ok_of_val hv).1
 have h40 := (ok_of_val hv).1.2.1
 have h1q := (ok_of_val hv).1.1
 have i1 := sim_ok g2
 have sA := sc_dT (okT_ne g2)
 have sB := sc_dT (okT_ne i1.1)
 have hqm : ((q.length : Int) - 1).toNat = q.length - 1 := by omega
 have hv1 : (valQ q).1 = 0 := by rw [hv]
 have hv2 : (valQ q).2 = 0 := by rw [hv]
 have hvb : (decide ((valQ q).1 = 0) && decide ((valQ q).2 = 0)) = true := by rw [hv]; rfl
 have hx := And.intro @hvb hx0
 refine u_reg ?_
 try refine lg_mk ?_
 refine u_ld ?_
 refine u_bd ?_
 refine u_bn ?_
 refine lg_nil ?_
 have hx := hx0
 refine h4 _ ?_; clear h4; try clear N4
 refine u_cond (fun hb5 => ?_) (fun hb5 => ?_)
 ·first | omega | exact absurd trivial hb5 | contradiction | (simp_all; done)
 refine vc_skip ?_
 try simp only [k_rules]
 refine h2 _ ?_; clear h2; try clear N2
 refine vc_seq_k fun N6 h6 => ?_
 refine u_reg ?_
 try refine lg_mk ?_
 refine u_al ?_
 refine lg_nil ?_
 refine h6 _ ?_; clear h6; try clear N6
 refine vc_seq_k fun N7 h7 => ?_
 refine vc_nil1 4 0 _ 4 (vec_nil 39 4) rfl rfl rfl ?_
 simp only [updL, List.set, List.cons_append, List.nil_append]
 have hx := And.intro @hqm (And.intro @g1 (And.intro @sA (And.intro @sB hx0)))
 refine u_reg ?_
 try refine lg_mk ?_
 refine u_ld ?_
 refine u_pt ?_
 refine u_ld ?_
 refine u_ln ?_
 refine u_bn (hq := by (first | ((repeat' apply And.intro) <;> first | rfl | omega | exact hokN.2 | exact g2 | exact i1.1 | exact okT_ne i1.1 | (rw [g1]; rfl)) | exact sd_)) ?_
 have hc := call_rule (E := (E_simA.at_ 23)) (f := 36) (sp := Spec.pure (opnG 41)) rfl
 have hs := @opnG.eq_1
 refine u_hp (hq := by (first | ((repeat' apply And.intro) <;> first | rfl | omega | exact hokN.2 | exact g2 | exact i1.1 | exact okT_ne i1.1 | (rw [g1]; rfl)) | exact sd_)) ?_
 have hc := call_rule (E := (E_simA.at_ 23)) (f := 35) (sp := Spec.pure (simG 900)) rfl
 have hs := @simG.eq_1
 refine u_hp (hq := by (first | ((repeat' apply And.intro) <;> first | rfl | omega | exact hokN.2 | exact g2 | exact i1.1 | exact okT_ne i1.1 | (rw [g1]; rfl)) | exact sd_)) ?_
 have hc := call_rule (E := (E_simA.at_ 23)) (f := 37) (sp := Spec.gen (lstG 1000)) rfl
 have hs := @lstG.eq_1
 refine u_hg (hq := by (first | ((repeat' apply And.intro) <;> first | rfl | omega | exact hokN.2 | exact g2 | exact i1.1 | exact okT_ne i1.1 | (rw [g1]; rfl)) | exact sd_)) ?_
 refine lg_nil ?_
 have hx := hx0
 refine h7 _ ?_; clear h7; try clear N7
 refine vc_seq_k fun N8 h8 => ?_
 refine u_reg ?_
 try refine lg_mk ?_
 refine u_ld ?_
 refine u_bd ?_
 iterate 2 refine u_st ?_
 refine lg_nil ?_
 refine h8 _ ?_; clear h8; try clear N8
 refine vc_ret ?_
 try simp only [k_rules]
 have hr : optQ q = (0, 0, lsT 0 (simT R)) := by unfold optQ; rw [if_neg (by rw [hv]; simp), g4]
 rw [hr]
 refine fin2_ ?_
 ·(repeat' apply And.intro) <;> (first | (first | rfl | (rw [List.take_of_length_le (by rw [lsT_len]; exact Nat.le_refl _)]; done)) | exact cl_)
 have hvb : (decide ((valQ q).1 = 0) && decide ((valQ q).2 = 0)) = false := pair_ne hv
 have hx := And.intro @hvb hx0
 refine u_reg ?_
 try refine lg_mk ?_
 refine u_ld ?_
 refine u_bd ?_
 refine u_bn ?_
 refine lg_nil ?_
 have hx := hx0
 refine h4 _ ?_; clear h4; try clear N4
 refine u_cond (fun hb9 => ?_) (fun hb9 => ?_)
 refine vc_seq_k fun N10 h10 => ?_
 refine vc_regT [] (.seq [0] (.alt 1 (.seq [2, 3] .nil) (.alt 2 (.seq [1, 3] .nil) .nil))) hmix (by kernel_rfl) ?_
 refine at_seq ?_
 simp only [pick_rules, list_rules]
 try refine lg_mk ?_
 refine u_bd ?_
 refine lg_nil ?_
 refine at_alt ?_ ?_
 simp only [pick_rules, list_rules]
 try refine lg_mk ?_
 refine u_ld ?_
 refine lg_nil ?_
 refine at_seq ?_
 simp only [pick_rules, list_rules]
 try refine lg_mk ?_
 iterate 2 refine u_st ?_
 refine lg_nil ?_
 refine at_nil ?_
 refine h10 _ ?_; clear h10; try clear N10
 refine vc_ret ?_
 try simp only [k_rules]
 have hr : optQ q = ((valQ q).1, (valQ q).2, []) := by unfold optQ; rw [if_pos hv]
 rw [hr]
 refine fin2_ ?_
 exact cl_
 refine at_alt ?_ ?_
 simp only [pick_rules, list_rules]
 try refine lg_mk ?_
 refine u_st ?_
 refine lg_nil ?_
 refine at_seq ?_
 simp only [pick_rules, list_rules]
 try refine lg_mk ?_
 refine u_ld ?_
 refine u_st ?_
 refine lg_nil ?_
 refine at_nil ?_
 refine h10 _ ?_; clear h10; try clear N10
 refine vc_ret ?_
 try simp only [k_rules]
 have hr : optQ q = ((valQ q).1, (valQ q).2, []) := by unfold optQ; rw [if_pos hv]
 rw [hr]
 refine fin2_ ?_
 exact cl_
 exact at_end
 ·first | omega | exact absurd trivial hb9 | contradiction | (simp_all; done)
 cases hg

def E_opt : Env Tryd.prog := E_simA.add 15 (Spec.pure optG) opt_meets (by kernel_rfl)

theorem cst_meets : Meets Tryd.prog 16 (Spec.pure cstG) := by
 refine meets_fun (E_opt.at_ 37) Tryd.func16 rfl rfl rfl ?_
 intro args p r hg hp
 unfold cstG at hg
 split at hg
 rename_i xs
 simp only [Option.some.injEq, Prod.mk.injEq] at hg
 obtain ⟨rfl, rfl⟩ := hg
 obtain ⟨he, hl⟩ := hp
 generalize dN xs = q at *
 subst he
 have hT : (E_opt).X = T := rfl
 have hx0 := And.intro @dec_t (And.intro @dec_f (And.intro @rect_eN (And.intro @dN_rows (And.intro @Int.toNat_natCast (And.intro @tD_dT (And.intro @tD_nd (And.intro @tD_lf (And.intro @cl_dT (And.intro @cm_dT (And.intro @dT_nd (And.intro @dT_nil (And.intro @eq_dT (And.intro @ne_dT (And.intro @getD_tr @Tryd.results16))))))))))))))
 have hx := hx0
 refine ⟨by rfl, ?_⟩
 intro F W0 hnp hmk
 refine vc_seq_k fun N1 h1 => ?_
 refine u_reg ?_
 try refine lg_mk ?_
 refine u_bx ?_
 refine u_mv ?_
 refine u_al ?_
 refine lg_nil ?_
 refine h1 _ ?_; clear h1; try clear N1
 refine vc_seq_k fun N2 h2 => ?_
 refine vc_seq_k fun N3 h3 => ?_
 refine u_reg ?_
 try refine lg_mk ?_
 refine u_ld ?_
 have hc := call_rule (E := (E_opt.at_ 37)) (f := 24) (sp := Spec.pure valG) rfl
 have hs := @valG.eq_1
 refine u_cp ?_
 refine u_al ?_
 refine u_st ?_
 refine lg_nil ?_
 refine h3 _ ?_; clear h3; try clear N3
 refine vc_seq_k fun N4 h4 => ?_
 by_cases hv : valQ q = (0, 0)
 obtain ⟨R, g1, g2, g3, g4⟩ := tre_ok hv
 have hokN := ok_N (ok_of_val hv).1
 have h40 := (ok_of_val hv).1.2.1
 have h1q := (ok_of_val hv).1.1
 have i1 := sim_ok g2
 have sA := sc_dT (okT_ne g2)
 have sB := sc_dT (okT_ne i1.1)
 have hqm : ((q.length : Int) - 1).toNat = q.length - 1 := by omega
 have hv1 : (valQ q).1 = 0 := by rw [hv]
 have hv2 : (valQ q).2 = 0 := by rw [hv]
 have hvb : (decide ((valQ q).1 = 0) && decide ((valQ q).2 = 0)) = true := by rw [hv]; rfl
 have hx := And.intro @hvb hx0
 refine u_reg ?_
 try refine lg_mk ?_
 refine u_ld ?_
 refine u_bd ?_
 refine u_bn ?_
 refine lg_nil ?_
 have hx := hx0
 refine h4 _ ?_; clear h4; try clear N4
 refine u_cond (fun hb5 => ?_) (fun hb5 => ?_)
 ·first | omega | exact absurd trivial hb5 | contradiction | (simp_all; done)
 refine vc_skip ?_
 try simp only [k_rules]
 refine h2 _ ?_; clear h2; try clear N2
 refine vc_seq_k fun N6 h6 => ?_
 refine u_reg ?_
 try refine lg_mk ?_
 refine u_pt ?_
 refine u_ld ?_
 refine u_ln ?_
 refine u_mv ?_
 refine lg_nil ?_
 refine h6 _ ?_; clear h6; try clear N6
 refine vc_seq_k fun N7 h7 => ?_
 refine vc_seq_k fun N8 h8 => ?_
 refine u_reg ?_
 try refine lg_mk ?_
 refine u_pt ?_
 refine u_ld ?_
 refine u_ln ?_
 refine u_mv ?_
 refine lg_nil ?_
 refine h8 _ ?_; clear h8; try clear N8
 refine vc_block ?_
 refine vc_loop_mk (σ := Nat) (fun s => (fun i => i ≤ q.length) s)
  (fun s => (fun i => [(1, .ptr 0 0 0), (3, .ptr 1 0 0), (5, .d (.int .i64 (costK q i + (q.length - i : Int)))), (18, .d (.sl (rows eN q))), (19, .d (.int .i64 (q.length : Nat))), (20, .d (.int .i64 (i : Nat)))]) s)
  (fun s => (fun i => [some (.one 24 [.d (.sl (rows eN q))]), some (.one 27 [.d (.int .i64 0), .d (.int .i64 0)])]) s) (fun s => (fun i => q.length - i) s) hnp 0 ?_ [some 0, some 1] ?_ ?_
 dsimp only
 omega
 dsimp only
 refine ⟨by rfl, ?_, ?_⟩
 refine fin_ ?_
 ·(repeat' apply And.intro) <;> (first | (first | rfl | trivial | omega | (left; simp [costK]; done) | (simp [costK]; done)) | exact cl_)
 refine fin_ ?_
 ·(repeat' apply And.intro) <;> (first | (first | rfl | trivial | omega | (left; simp [costK]; done) | (simp [costK]; done)) | exact cl_)
 rintro i hinv N9 h9
 dsimp only at hinv ⊢
 have i1 := hinv
 refine vc_seq_k fun N10 h10 => ?_
 refine u_reg ?_
 try refine lg_mk ?_
 refine u_bn ?_
 refine lg_nil ?_
 refine h10 _ ?_; clear h10; try clear N10
 refine vc_seq_k fun N11 h11 => ?_
 refine u_cond (fun hb12 => ?_) (fun hb12 => ?_)
 obtain ⟨x, hxe⟩ := getE (l := q) (i := i) (by have := hb12; omega)
 have hxd : q.getD i default = x := by rw [List.getD_eq_getElem?_getD, hxe]; rfl
 have hcl := costK_le q i
 have hcs : costK q (i + 1) = costK q i + 1 + if wkN x = true then 10 else 0 := by rw [← hxd]; rfl
 obtain ⟨a, b, c, d⟩ := x
 refine vc_skip ?_
 try simp only [k_rules]
 refine h11 _ ?_; clear h11; try clear N11
 refine vc_seq_k fun N13 h13 => ?_
 refine vc_block ?_
 refine vc_seq_k fun N14 h14 => ?_
 have hx := And.intro @hxe (And.intro @eN.eq_1 hx0)
 refine u_reg ?_
 try refine lg_mk ?_
 refine u_pt ?_
 refine u_ld ?_
 refine u_al ?_
 refine u_st ?_
 refine lg_nil ?_
 have hx := hx0
 refine h14 _ ?_; clear h14; try clear N14
 refine vc_seq_k fun N15 h15 => ?_
 refine u_reg ?_
 try refine lg_mk ?_
 refine u_pt ?_
 refine u_ld ?_
 refine u_bn ?_
 refine u_mv ?_
 refine g_pt ?_
 refine g_ld ?_
 refine g_bn ?_
 refine u_pk ?_
 refine lg_nil ?_
 refine h15 _ ?_; clear h15; try clear N15
 refine u_cond (fun hb16 => ?_) (fun hb16 => ?_)
 have hw : wkN ⟨a, b, c, d⟩ = true := by unfold wkN; dsimp only; simpa using hb16
 rw [hw, if_pos rfl] at hcs
 refine u_reg ?_
 try refine lg_mk ?_
 refine u_mv ?_
 refine u_bn ?_
 refine u_mv ?_
 refine lg_nil ?_
 refine h13 _ ?_; clear h13; try clear N13
 refine u_reg ?_
 try refine lg_mk ?_
 refine u_bn ?_
 refine u_mv ?_
 refine lg_nil ?_
 refine h9 _ ⟨i + 1, ?_, ?_, [some 0, some 1], ?_⟩
 dsimp only
 omega
 dsimp only
 omega
 dsimp only
 refine ⟨by rfl, ?_, ?_⟩
 refine fin_ ?_
 ·(repeat' apply And.intro) <;> (first | (first | rfl | trivial | omega | (left; congr 1; omega)) | exact cl_)
 refine fin_ ?_
 ·(repeat' apply And.intro) <;> (first | (first | rfl | trivial | omega | (left; congr 1; omega)) | exact cl_)
 have hw : wkN ⟨a, b, c, d⟩ = false := by unfold wkN; dsimp only; simpa using hb16
 rw [hw, if_neg (by simp)] at hcs
 refine vc_skip ?_
 try simp only [k_rules]
 refine h13 _ ?_; clear h13; try clear N13
 refine u_reg ?_
 try refine lg_mk ?_
 refine u_bn ?_
 refine u_mv ?_
 refine lg_nil ?_
 refine h9 _ ⟨i + 1, ?_, ?_, [some 0, some 1], ?_⟩
 dsimp only
 omega
 dsimp only
 omega
 dsimp only
 refine ⟨by rfl, ?_, ?_⟩
 refine fin_ ?_
 ·(repeat' apply And.intro) <;> (first | (first | rfl | trivial | omega | (left; congr 1; omega)) | exact cl_)
 refine fin_ ?_
 ·(repeat' apply And.intro) <;> (first | (first | rfl | trivial | omega | (left; congr 1; omega)) | exact cl_)
 refine vc_exit ?_
 simp only [k_rules, Nat.reduceEqDiff, reduceIte, eq_self]
 refine h7 _ ?_; clear h7; try clear N7
 refine vc_seq_k fun N17 h17 => ?_
 refine u_reg ?_
 try refine lg_mk ?_
 refine u_mv ?_
 refine u_bd ?_
 refine u_mv ?_
 refine u_st ?_
 refine lg_nil ?_
 refine h17 _ ?_; clear h17; try clear N17
 refine vc_ret ?_
 try simp only [k_rules]
 obtain rfl : i = q.length := by omega
 have hr : cstQ q = (0, 0, costK q q.length) := by unfold cstQ; rw [if_neg (by rw [hv]; simp)]
 rw [hr, Int.sub_self, Int.add_zero]
 refine fin2_ ?_
 exact cl_
 have hvb : (decide ((valQ q).1 = 0) && decide ((valQ q).2 = 0)) = false := pair_ne hv
 have hx := And.intro @hvb hx0
 refine u_reg ?_
 try refine lg_mk ?_
 refine u_ld ?_
 refine u_bd ?_
 refine u_bn ?_
 refine lg_nil ?_
 have hx := hx0
 refine h4 _ ?_; clear h4; try clear N4
 refine u_cond (fun hb18 => ?_) (fun hb18 => ?_)
 refine vc_seq_k fun N19 h19 => ?_
 refine u_reg ?_
 try refine lg_mk ?_
 refine u_ld ?_
 refine u_mv ?_
 refine u_st ?_
 refine lg_nil ?_
 refine h19 _ ?_; clear h19; try clear N19
 refine vc_ret ?_
 try simp only [k_rules]
 have hr : cstQ q = ((valQ q).1, (valQ q).2, 0) := by unfold cstQ; rw [if_pos hv]
 rw [hr]
 refine fin2_ ?_
 exact cl_
 ·first | omega | exact absurd trivial hb18 | contradiction | (simp_all; done)
 cases hg

def E_cst : Env Tryd.prog := E_opt.add 16 (Spec.pure cstG) cst_meets (by kernel_rfl)
end Go.Proofs.YtlbjffdaooadoaaDoor
