/- Walks, printed by wip/gen/walk.py. -/
import Derived.Test.YtlbjffdaooadoaaDoorT9
import Derived.Test.YtlbjffdaooadoaaDoorV5
set_option linter.all false
set_option maxRecDepth 100000
set_option maxHeartbeats 4000000
namespace Go.Proofs.YtlbjffdaooadoaaDoor
open Go Go.Vc Go.RowKit
theorem cm_few {c : Cm} {i : Int} (h : 3 < c.par.length) : cmF c i = 2 := by unfold cmF; rw [if_pos h]
theorem cm_par {c : Cm} {i : Int} {k : Nat} (h0 : ¬3 < c.par.length) (hk : k < c.par.length) (h : ∀ j, j < k → parAt c.par i j = 0) {v : Int} (hv : parAt c.par i k = v) (hv0 : v ≠ 0) : cmF c i = v := by
  unfold cmF; rw [if_neg h0, scan_hit hk h (by rw [hv]; exact hv0), hv, if_pos hv0]
theorem cm_num {c : Cm} {i : Int} (h0 : ¬3 < c.par.length) (h : ∀ j, j < c.par.length → parAt c.par i j = 0) (hn : ¬(0 ≤ c.au ∧ c.au ≤ 7) ∨ ¬(0 ≤ c.ti ∧ c.ti ≤ 100000) ∨ ¬(0 ≤ c.tr ∧ c.tr < 2305843009213693951)) : cmF c i = 3 := by
  unfold cmF; rw [if_neg h0, scan_none h, if_neg (by simp), if_pos hn]
theorem cm_msg {c : Cm} {i : Int} (h0 : ¬3 < c.par.length) (h : ∀ j, j < c.par.length → parAt c.par i j = 0) (h1 : 0 ≤ c.au ∧ c.au ≤ 7) (h2 : 0 ≤ c.ti ∧ c.ti ≤ 100000) (h3 : 0 ≤ c.tr ∧ c.tr < 2305843009213693951) {v : Int} (hv : (if 80 < c.ms.length then (10 : Int) else 0) = v) : cmF c i = v := by
  unfold cmF; rw [if_neg h0, scan_none h, if_neg (by simp), if_neg (by omega), hv]
theorem par_3 {l : List Int} {i p : Int} {k : Nat} (h : l[k]? = some p) (h1 : p < 0 ∨ i ≤ p) : parAt l i k = 3 := by
  unfold parAt; rw [getD_of h, if_pos (by omega)]
theorem par_5 {l : List Int} {i p q : Int} {k : Nat} (h : l[k]? = some p) (hq : l[((k : Int) - 1).toNat]? = some q) (h1 : 0 ≤ p) (h2 : p < i) (hk : 0 < k) (hpq : p ≤ q) : parAt l i k = 5 := by
  have e : ((k : Int) - 1).toNat = k - 1 := by omega
  rw [e] at hq
  unfold parAt; rw [getD_of h, getD_of hq, if_neg (by omega), if_pos ⟨hk, hpq⟩]
theorem par_0 {l : List Int} {i p q : Int} {k : Nat} (h : l[k]? = some p) (hq : l[((k : Int) - 1).toNat]? = some q) (h1 : 0 ≤ p) (h2 : p < i) (hpq : 0 < k → q < p) : parAt l i k = 0 := by
  have e : ((k : Int) - 1).toNat = k - 1 := by omega
  rw [e] at hq
  unfold parAt; rw [getD_of h, getD_of hq, if_neg (by omega), if_neg (by rintro ⟨h3, h4⟩; have := hpq h3; omega)]
theorem lt_snoc {P : Nat → Prop} {k : Nat} (h : ∀ j, j < k → P j) (hk : P k) : ∀ j, j < k + 1 → P j := fun j hj => by
  rcases Nat.lt_or_ge j k with h' | h'
  · exact h j h'
  · have : j = k := by omega
    subst this; exact hk
def smallC (l : List Cm) : Prop := ∀ c ∈ l, c.par.length ≤ 9223372036854775807 ∧ c.ms.length ≤ 9223372036854775807
def checkG : List AV → Option (Prop × AV)
  | [.agg [.d (.sl ps), .d (.int .i64 a), .d (.int .i64 t), .d (.int .i64 r), .d (.str s)], .d (.int .i64 i)] => some (ps = rows eI (dI ps) ∧ (dI ps).length ≤ 9223372036854775807 ∧ s.length ≤ 9223372036854775807, .d (.int .i64 (cmF ⟨dI ps, a, t, r, s⟩ i)))
  | _ => none
def isDigG : List AV → Option (Prop × AV)
  | [.d (.int .i64 n)] => some (True, .d (.bool (decide (0 ≤ n) && decide (n ≤ 2305843009213693950))))
  | _ => none
def histG : List AV → Option (Prop × AV)
  | [.d (.sl xs)] => some (xs = rows eC (dC xs) ∧ (dC xs).length ≤ 9223372036854775807 ∧ smallC (dC xs), .agg [.d (.int .i64 (histF (dC xs)).1), .d (.int .i64 (histF (dC xs)).2)])
  | _ => none
theorem hist_big {l : List Cm} (h : 60 < l.length) : histF l = (2, -1) := by unfold histF; rw [if_pos h]
theorem hist_at {l : List Cm} {i : Nat} {c : Cm} (h0 : ¬60 < l.length) (h : l[i]? = some c) (hj : ∀ j, j < i → cmF (l.getD j default) j = 0) {v : Int} (hv : cmF c i = v) (hv0 : v ≠ 0) : histF l = (v, (i : Int)) := by
  have hi := (List.getElem?_eq_some_iff.1 h).1
  unfold histF; rw [if_neg h0, scanW_hit hi (fun j hj' => hj j hj') (by simp only [getD_of h, hv]; exact hv0)]
  simp only [getD_of h, hv]
theorem hist_ok {l : List Cm} (h0 : ¬60 < l.length) (hj : ∀ j, j < l.length → cmF (l.getD j default) j = 0) : histF l = (0, 0) := by
  unfold histF; rw [if_neg h0, scanW_none hj]

theorem isDig_meets : Meets Tryd.prog 52 (Spec.pure isDigG) := by
 refine meets_fun (E_leafq.at_ 5) Tryd.func52 rfl rfl rfl ?_
 intro args p r hg hp
 unfold isDigG at hg
 split at hg
 rename_i n
 simp only [Option.some.injEq, Prod.mk.injEq] at hg
 obtain ⟨rfl, rfl⟩ := hg
 have hT : (E_leafq).X = T := rfl
 have hx0 := @Tryd.results52
 have hx := hx0
 refine ⟨by rfl, ?_⟩
 intro F W0 hnp hmk
 refine vc_seq_k fun N1 h1 => ?_
 refine u_reg ?_
 try refine lg_mk ?_
 refine u_mv ?_
 refine lg_nil ?_
 refine h1 _ ?_; clear h1; try clear N1
 refine vc_seq_k fun N2 h2 => ?_
 refine u_reg ?_
 try refine lg_mk ?_
 refine u_mv ?_
 have hc := call_rule (E := (E_leafq.at_ 5)) (f := 38) (sp := Spec.pure inG) rfl
 have hs := @inG.eq_1
 refine u_cp ?_
 refine u_mv ?_
 refine lg_nil ?_
 refine h2 _ ?_; clear h2; try clear N2
 refine vc_ret ?_
 try simp only [k_rules]
 refine fin2_ ?_
 exact cl_
 cases hg

def E_isDig : Env Tryd.prog := E_leafq.add 52 (Spec.pure isDigG) isDig_meets (by kernel_rfl)

theorem check_meets : Meets Tryd.prog 70 (Spec.pure checkG) := by
 refine meets_fun (E_isDig.at_ 69) Tryd.func70 rfl rfl rfl ?_
 intro args p r hg hp
 unfold checkG at hg
 split at hg
 rename_i ps a t r ms i
 simp only [Option.some.injEq, Prod.mk.injEq] at hg
 obtain ⟨rfl, rfl⟩ := hg
 obtain ⟨he, hl, hm⟩ := hp
 generalize dI ps = l at *
 subst he
 have hT : (E_isDig).X = T := rfl
 have hx0 := @Tryd.results70
 have hx := hx0
 refine ⟨by rfl, ?_⟩
 intro F W0 hnp hmk
 refine vc_seq_k fun N1 h1 => ?_
 refine u_reg ?_
 try refine lg_mk ?_
 refine u_bx ?_
 refine u_mv ?_
 refine lg_nil ?_
 refine h1 _ ?_; clear h1; try clear N1
 refine vc_seq_k fun N2 h2 => ?_
 refine vc_seq_k fun N3 h3 => ?_
 refine u_reg ?_
 try refine lg_mk ?_
 refine u_pt ?_
 refine u_ld ?_
 refine u_ln ?_
 refine u_bn ?_
 refine lg_nil ?_
 refine h3 _ ?_; clear h3; try clear N3
 refine u_cond (fun hb4 => ?_) (fun hb4 => ?_)
 refine vc_seq_k fun N5 h5 => ?_
 refine u_reg ?_
 try refine lg_mk ?_
 refine u_mv ?_
 refine lg_nil ?_
 refine h5 _ ?_; clear h5; try clear N5
 refine vc_ret ?_
 try simp only [k_rules]
 have hr : cmF ⟨l, a, t, r, ms⟩ i = 2 := cm_few (by simp only; omega)
 rw [hr]
 refine fin2_ ?_
 exact cl_
 refine vc_skip ?_
 try simp only [k_rules]
 refine h2 _ ?_; clear h2; try clear N2
 refine vc_seq_k fun N6 h6 => ?_
 refine vc_seq_k fun N7 h7 => ?_
 refine u_reg ?_
 try refine lg_mk ?_
 refine u_pt ?_
 refine u_ld ?_
 refine u_ln ?_
 refine u_mv ?_
 refine lg_nil ?_
 refine h7 _ ?_; clear h7; try clear N7
 refine vc_block ?_
 refine vc_loop_mk (σ := Nat) (fun s => (fun k => k ≤ l.length ∧ ∀ j, j < k → parAt l i j = 0) s)
  (fun s => (fun k => [(1, .d (.int .i64 i)), (2, .ptr 0 0 0), (12, .d (.sl (rows eI l))), (13, .d (.int .i64 (l.length : Nat))), (14, .d (.int .i64 (k : Nat)))]) s)
  (fun s => (fun k => [some (.one 74 [.d (.sl (rows eI l)), .d (.int .i64 a), .d (.int .i64 t), .d (.int .i64 r), .d (.str ms)])]) s) (fun s => (fun k => l.length - k) s) hnp 0 ?_ [some 0] ?_ ?_
 dsimp only
 simp
 dsimp only
 refine ⟨by rfl, ?_, ?_⟩
 refine fin_ ?_
 exact cl_
 refine fin_ ?_
 exact cl_
 rintro k hinv N8 h8
 dsimp only at hinv ⊢
 obtain ⟨i1, i2⟩ := hinv
 refine vc_seq_k fun N9 h9 => ?_
 refine u_reg ?_
 try refine lg_mk ?_
 refine u_bn ?_
 refine lg_nil ?_
 refine h9 _ ?_; clear h9; try clear N9
 refine vc_seq_k fun N10 h10 => ?_
 refine u_cond (fun hb11 => ?_) (fun hb11 => ?_)
 obtain ⟨p, hpe⟩ := getE (l := l) (i := k) (by omega)
 obtain ⟨q, hqe⟩ := getE (l := l) (i := ((k : Int) - 1).toNat) (by omega)
 refine vc_skip ?_
 try simp only [k_rules]
 refine h10 _ ?_; clear h10; try clear N10
 refine vc_seq_k fun N12 h12 => ?_
 refine vc_block ?_
 refine vc_seq_k fun N13 h13 => ?_
 have hx := And.intro @hpe (And.intro @eI.eq_1 hx0)
 refine u_reg ?_
 try refine lg_mk ?_
 refine u_mv ?_
 refine u_pt ?_
 refine u_ld ?_
 iterate 2 refine u_mv ?_
 refine lg_nil ?_
 have hx := hx0
 refine h13 _ ?_; clear h13; try clear N13
 refine vc_seq_k fun N14 h14 => ?_
 refine vc_seq_k fun N15 h15 => ?_
 refine u_reg ?_
 try refine lg_mk ?_
 refine u_mv ?_
 refine u_bn ?_
 refine u_mv ?_
 iterate 2 refine g_mv ?_
 refine g_bn ?_
 refine u_pk ?_
 refine lg_nil ?_
 refine h15 _ ?_; clear h15; try clear N15
 refine u_cond (fun hb16 => ?_) (fun hb16 => ?_)
 refine vc_seq_k fun N17 h17 => ?_
 refine u_reg ?_
 try refine lg_mk ?_
 refine u_mv ?_
 refine lg_nil ?_
 refine h17 _ ?_; clear h17; try clear N17
 refine vc_ret ?_
 try simp only [k_rules]
 have hr : cmF ⟨l, a, t, r, ms⟩ i = 3 := cm_par (by simp only; omega) (show k < l.length by omega) i2 (par_3 hpe (by omega)) (by omega)
 rw [hr]
 refine fin2_ ?_
 exact cl_
 refine vc_skip ?_
 try simp only [k_rules]
 refine h14 _ ?_; clear h14; try clear N14
 refine vc_seq_k fun N18 h18 => ?_
 have hx := And.intro @hqe (And.intro @eI.eq_1 hx0)
 refine u_reg ?_
 try refine lg_mk ?_
 refine u_mv ?_
 refine u_bn ?_
 refine u_mv ?_
 refine g_mv ?_
 refine g_pt ?_
 refine g_ld ?_
 refine g_mv ?_
 refine g_bn ?_
 refine g_pt ?_
 refine g_ld ?_
 refine g_bn ?_
 refine u_pk ?_
 refine lg_nil ?_
 have hx := hx0
 refine h18 _ ?_; clear h18; try clear N18
 refine u_cond (fun hb19 => ?_) (fun hb19 => ?_)
 refine vc_seq_k fun N20 h20 => ?_
 refine u_reg ?_
 try refine lg_mk ?_
 refine u_mv ?_
 refine lg_nil ?_
 refine h20 _ ?_; clear h20; try clear N20
 refine vc_ret ?_
 try simp only [k_rules]
 have hr : cmF ⟨l, a, t, r, ms⟩ i = 5 := cm_par (by simp only; omega) (show k < l.length by omega) i2 (par_5 hpe hqe (by omega) (by omega) (by omega) (by omega)) (by omega)
 rw [hr]
 refine fin2_ ?_
 exact cl_
 refine vc_skip ?_
 try simp only [k_rules]
 refine h12 _ ?_; clear h12; try clear N12
 refine u_reg ?_
 try refine lg_mk ?_
 refine u_bn ?_
 refine u_mv ?_
 refine lg_nil ?_
 refine h8 _ ⟨k + 1, ?_, ?_, [some 0], ?_⟩
 dsimp only
 exact ⟨by omega, lt_snoc i2 (par_0 hpe hqe (by omega) (by omega) (fun h => by omega))⟩
 dsimp only
 omega
 dsimp only
 refine ⟨by rfl, ?_, ?_⟩
 refine fin_ ?_
 exact cl_
 refine fin_ ?_
 exact cl_
 refine vc_exit ?_
 simp only [k_rules, Nat.reduceEqDiff, reduceIte, eq_self]
 refine h6 _ ?_; clear h6; try clear N6
 refine vc_seq_k fun N21 h21 => ?_
 refine vc_block ?_
 refine vc_seq_k fun N22 h22 => ?_
 refine vc_seq_k fun N23 h23 => ?_
 refine u_reg ?_
 try refine lg_mk ?_
 refine u_pt ?_
 refine u_ld ?_
 refine u_bn ?_
 refine u_mv ?_
 refine g_pt ?_
 refine g_ld ?_
 refine g_bn ?_
 refine u_pk ?_
 refine u_mv ?_
 refine lg_nil ?_
 refine h23 _ ?_; clear h23; try clear N23
 refine u_cond (fun hb24 => ?_) (fun hb24 => ?_)
 refine vc_skip ?_
 try simp only [k_rules]
 refine h22 _ ?_; clear h22; try clear N22
 refine u_cond (fun hb25 => ?_) (fun hb25 => ?_)
 refine vc_seq_k fun N26 h26 => ?_
 refine u_reg ?_
 try refine lg_mk ?_
 refine u_mv ?_
 refine lg_nil ?_
 refine h26 _ ?_; clear h26; try clear N26
 refine vc_ret ?_
 try simp only [k_rules]
 have hr : cmF ⟨l, a, t, r, ms⟩ i = 3 := cm_num (by simp only; omega) (fun j hj => i2 j (by simp only at hj; omega)) (by simp only; omega)
 rw [hr]
 refine fin2_ ?_
 exact cl_
 ·exfalso; first | omega | contradiction | (simp_all; done) | (simp_all; omega)
 refine vc_seq_k fun N27 h27 => ?_
 refine u_reg ?_
 try refine lg_mk ?_
 refine u_pt ?_
 refine u_ld ?_
 refine u_bn ?_
 refine u_mv ?_
 refine g_pt ?_
 refine g_ld ?_
 refine g_bn ?_
 refine u_pk ?_
 refine u_mv ?_
 refine lg_nil ?_
 refine h27 _ ?_; clear h27; try clear N27
 refine u_cond (fun hb28 => ?_) (fun hb28 => ?_)
 refine vc_skip ?_
 try simp only [k_rules]
 refine h22 _ ?_; clear h22; try clear N22
 refine u_cond (fun hb29 => ?_) (fun hb29 => ?_)
 refine vc_seq_k fun N30 h30 => ?_
 refine u_reg ?_
 try refine lg_mk ?_
 refine u_mv ?_
 refine lg_nil ?_
 refine h30 _ ?_; clear h30; try clear N30
 refine vc_ret ?_
 try simp only [k_rules]
 have hr : cmF ⟨l, a, t, r, ms⟩ i = 3 := cm_num (by simp only; omega) (fun j hj => i2 j (by simp only at hj; omega)) (by simp only; omega)
 rw [hr]
 refine fin2_ ?_
 exact cl_
 ·exfalso; first | omega | contradiction | (simp_all; done) | (simp_all; omega)
 refine u_reg ?_
 try refine lg_mk ?_
 refine u_pt ?_
 refine u_ld ?_
 refine u_bn ?_
 refine u_mv ?_
 refine g_pt ?_
 refine g_ld ?_
 refine g_bn ?_
 refine u_pk ?_
 refine u_mv ?_
 refine lg_nil ?_
 refine h22 _ ?_; clear h22; try clear N22
 refine u_cond (fun hb31 => ?_) (fun hb31 => ?_)
 refine vc_seq_k fun N32 h32 => ?_
 refine u_reg ?_
 try refine lg_mk ?_
 refine u_mv ?_
 refine lg_nil ?_
 refine h32 _ ?_; clear h32; try clear N32
 refine vc_ret ?_
 try simp only [k_rules]
 have hr : cmF ⟨l, a, t, r, ms⟩ i = 3 := cm_num (by simp only; omega) (fun j hj => i2 j (by simp only at hj; omega)) (by simp only; omega)
 rw [hr]
 refine fin2_ ?_
 exact cl_
 refine vc_seq_k fun N33 h33 => ?_
 refine u_reg ?_
 try refine lg_mk ?_
 refine u_pt ?_
 refine u_ld ?_
 refine u_ln ?_
 refine u_bn ?_
 refine u_mv ?_
 refine lg_nil ?_
 refine h33 _ ?_; clear h33; try clear N33
 refine u_cond (fun hb34 => ?_) (fun hb34 => ?_)
 refine vc_seq_k fun N35 h35 => ?_
 refine u_reg ?_
 try refine lg_mk ?_
 refine u_mv ?_
 refine lg_nil ?_
 refine h35 _ ?_; clear h35; try clear N35
 refine vc_ret ?_
 try simp only [k_rules]
 have hr : cmF ⟨l, a, t, r, ms⟩ i = 10 := cm_msg (by simp only; omega) (fun j hj => i2 j (by simp only at hj; omega)) (by simp only; omega) (by simp only; omega) (by simp only; omega) (if_pos (by simp only; omega))
 rw [hr]
 refine fin2_ ?_
 exact cl_
 refine vc_skip ?_
 try simp only [k_rules]
 refine h21 _ ?_; clear h21; try clear N21
 refine vc_seq_k fun N36 h36 => ?_
 refine u_reg ?_
 try refine lg_mk ?_
 refine u_mv ?_
 refine lg_nil ?_
 refine h36 _ ?_; clear h36; try clear N36
 refine vc_ret ?_
 try simp only [k_rules]
 have hr : cmF ⟨l, a, t, r, ms⟩ i = 0 := cm_msg (by simp only; omega) (fun j hj => i2 j (by simp only at hj; omega)) (by simp only; omega) (by simp only; omega) (by simp only; omega) (if_neg (by simp only; omega))
 rw [hr]
 refine fin2_ ?_
 exact cl_
 cases hg

def E_check : Env Tryd.prog := E_isDig.add 70 (Spec.pure checkG) check_meets (by kernel_rfl)

theorem validate_meets : Meets Tryd.prog 46 (Spec.pure histG) := by
 refine meets_fun (E_check.at_ 27) Tryd.func46 rfl rfl rfl ?_
 intro args p r hg hp
 unfold histG at hg
 split at hg
 rename_i xs
 simp only [Option.some.injEq, Prod.mk.injEq] at hg
 obtain ⟨rfl, rfl⟩ := hg
 obtain ⟨he, hl, hs⟩ := hp
 generalize dC xs = l at *
 subst he
 have hT : (E_check).X = T := rfl
 have hx0 := And.intro @rect_eC @Tryd.results46
 have hx := hx0
 refine ⟨by rfl, ?_⟩
 intro F W0 hnp hmk
 refine vc_seq_k fun N1 h1 => ?_
 refine u_reg ?_
 try refine lg_mk ?_
 refine u_al ?_
 refine lg_nil ?_
 refine h1 _ ?_; clear h1; try clear N1
 refine vc_seq_k fun N2 h2 => ?_
 refine vc_seq_k fun N3 h3 => ?_
 refine u_reg ?_
 try refine lg_mk ?_
 refine u_mv ?_
 refine u_ln ?_
 refine u_bn ?_
 refine lg_nil ?_
 refine h3 _ ?_; clear h3; try clear N3
 refine u_cond (fun hb4 => ?_) (fun hb4 => ?_)
 refine vc_seq_k fun N5 h5 => ?_
 refine u_reg ?_
 try refine lg_mk ?_
 refine u_bd ?_
 refine u_st ?_
 refine lg_nil ?_
 refine h5 _ ?_; clear h5; try clear N5
 refine vc_ret ?_
 try simp only [k_rules]
 rw [hist_big (l := l) (by omega)]
 refine fin2_ ?_
 exact cl_
 refine vc_skip ?_
 try simp only [k_rules]
 refine h2 _ ?_; clear h2; try clear N2
 refine vc_seq_k fun N6 h6 => ?_
 refine vc_seq_k fun N7 h7 => ?_
 refine u_reg ?_
 try refine lg_mk ?_
 refine u_mv ?_
 refine u_ln ?_
 refine u_mv ?_
 refine lg_nil ?_
 refine h7 _ ?_; clear h7; try clear N7
 refine vc_block ?_
 refine vc_loop_mk (σ := Nat) (fun s => (fun i => i ≤ l.length ∧ ∀ j, j < i → cmF (l.getD j default) j = 0) s)
  (fun s => (fun i => [(2, .ptr 0 0 0), (10, .d (.sl (rows eC l))), (11, .d (.int .i64 (l.length : Nat))), (12, .d (.int .i64 (i : Nat)))]) s)
  (fun s => (fun i => [some (.one 27 [.d (.int .i64 0), .d (.int .i64 0)])]) s) (fun s => (fun i => l.length - i) s) hnp 0 ?_ [some 0] ?_ ?_
 dsimp only
 simp
 dsimp only
 refine ⟨by rfl, ?_, ?_⟩
 refine fin_ ?_
 exact cl_
 refine fin_ ?_
 exact cl_
 rintro i hinv N8 h8
 dsimp only at hinv ⊢
 obtain ⟨i1, i2⟩ := hinv
 refine vc_seq_k fun N9 h9 => ?_
 refine u_reg ?_
 try refine lg_mk ?_
 refine u_bn ?_
 refine lg_nil ?_
 refine h9 _ ?_; clear h9; try clear N9
 refine vc_seq_k fun N10 h10 => ?_
 refine u_cond (fun hb11 => ?_) (fun hb11 => ?_)
 obtain ⟨c, hce⟩ := getE (l := l) (i := i) (by omega)
 obtain ⟨hc1, hc2⟩ := hs c (mem_at hce)
 refine vc_skip ?_
 try simp only [k_rules]
 refine h10 _ ?_; clear h10; try clear N10
 refine vc_seq_k fun N12 h12 => ?_
 refine vc_block ?_
 refine vc_seq_k fun N13 h13 => ?_
 have hx := And.intro @hce (And.intro @eC.eq_1 hx0)
 refine u_reg ?_
 try refine lg_mk ?_
 refine u_mv ?_
 refine u_pt ?_
 refine u_ld ?_
 refine u_al ?_
 refine u_mv ?_
 refine u_st ?_
 refine lg_nil ?_
 have hx := hx0
 refine h13 _ ?_; clear h13; try clear N13
 refine vc_seq_k fun N14 h14 => ?_
 have hx := And.intro @dI_rows hx0
 refine u_reg ?_
 try refine lg_mk ?_
 refine u_ld ?_
 refine u_mv ?_
 have hc := call_rule (E := (E_check.at_ 27)) (f := 70) (sp := Spec.pure checkG) rfl
 have hs := @checkG.eq_1
 refine u_cp (hq := by (first | (rw [dI_rows]; exact ⟨rfl, hc1, hc2⟩) | exact sd_)) ?_
 refine u_mv ?_
 refine lg_nil ?_
 have hx := hx0
 refine h14 _ ?_; clear h14; try clear N14
 refine vc_seq_k fun N15 h15 => ?_
 refine u_reg ?_
 try refine lg_mk ?_
 refine u_mv ?_
 refine u_bn ?_
 refine lg_nil ?_
 refine h15 _ ?_; clear h15; try clear N15
 refine u_cond (fun hb16 => ?_) (fun hb16 => ?_)
 refine vc_seq_k fun N17 h17 => ?_
 refine u_reg ?_
 try refine lg_mk ?_
 iterate 2 refine u_mv ?_
 refine u_bd ?_
 refine u_st ?_
 refine lg_nil ?_
 refine h17 _ ?_; clear h17; try clear N17
 refine vc_ret ?_
 try simp only [k_rules]
 rw [hist_at (l := l) (by omega) hce i2 rfl hb16]
 refine fin2_ ?_
 exact cl_
 refine vc_skip ?_
 try simp only [k_rules]
 refine h12 _ ?_; clear h12; try clear N12
 refine u_reg ?_
 try refine lg_mk ?_
 refine u_bn ?_
 refine u_mv ?_
 refine lg_nil ?_
 refine h8 _ ⟨i + 1, ?_, ?_, [some 0], ?_⟩
 dsimp only
 exact ⟨by omega, lt_snoc i2 (by rw [getD_of hce]; exact hb16)⟩
 dsimp only
 omega
 dsimp only
 refine ⟨by rfl, ?_, ?_⟩
 refine fin_ ?_
 exact cl_
 refine fin_ ?_
 exact cl_
 refine vc_exit ?_
 simp only [k_rules, Nat.reduceEqDiff, reduceIte, eq_self]
 refine h6 _ ?_; clear h6; try clear N6
 refine vc_seq_k fun N18 h18 => ?_
 refine u_reg ?_
 try refine lg_mk ?_
 refine u_bd ?_
 refine u_st ?_
 refine lg_nil ?_
 refine h18 _ ?_; clear h18; try clear N18
 refine vc_ret ?_
 try simp only [k_rules]
 rw [hist_ok (l := l) (by omega) (fun j hj => i2 j (by omega))]
 refine fin2_ ?_
 exact cl_
 cases hg

def E_validate : Env Tryd.prog := E_check.add 46 (Spec.pure histG) validate_meets (by kernel_rfl)

theorem histFault_meets : Meets Tryd.prog 25 (Spec.pure histG) := by
 refine meets_fun (E_validate.at_ 87) Tryd.func25 rfl rfl rfl ?_
 intro args p r hg hp
 unfold histG at hg
 split at hg
 rename_i xs
 simp only [Option.some.injEq, Prod.mk.injEq] at hg
 obtain ⟨rfl, rfl⟩ := hg
 obtain ⟨he, hl, hs⟩ := hp
 generalize dC xs = l at *
 subst he
 have hT : (E_validate).X = T := rfl
 have hx0 := And.intro @rect_eC @Tryd.results25
 have hx := hx0
 refine ⟨by rfl, ?_⟩
 intro F W0 hnp hmk
 refine vc_seq_k fun N1 h1 => ?_
 refine u_reg ?_
 try refine lg_mk ?_
 refine u_al ?_
 refine lg_nil ?_
 refine h1 _ ?_; clear h1; try clear N1
 refine vc_seq_k fun N2 h2 => ?_
 refine vc_seq_k fun N3 h3 => ?_
 refine u_reg ?_
 try refine lg_mk ?_
 refine u_mv ?_
 refine u_ln ?_
 refine u_bn ?_
 refine lg_nil ?_
 refine h3 _ ?_; clear h3; try clear N3
 refine u_cond (fun hb4 => ?_) (fun hb4 => ?_)
 refine vc_seq_k fun N5 h5 => ?_
 refine u_reg ?_
 try refine lg_mk ?_
 have hc := call_rule (E := (E_validate.at_ 87)) (f := 26) (sp := Spec.pure faultG) rfl
 have hs := @faultG.eq_1
 refine u_cp ?_
 refine u_st ?_
 refine lg_nil ?_
 refine h5 _ ?_; clear h5; try clear N5
 refine vc_ret ?_
 try simp only [k_rules]
 rw [hist_big (l := l) (by omega)]
 refine fin2_ ?_
 exact cl_
 refine vc_skip ?_
 try simp only [k_rules]
 refine h2 _ ?_; clear h2; try clear N2
 refine vc_seq_k fun N6 h6 => ?_
 refine vc_seq_k fun N7 h7 => ?_
 refine u_reg ?_
 try refine lg_mk ?_
 refine u_mv ?_
 refine lg_nil ?_
 refine h7 _ ?_; clear h7; try clear N7
 refine vc_block ?_
 refine vc_loop_mk (σ := Nat) (fun s => (fun i => i ≤ l.length ∧ ∀ j, j < i → cmF (l.getD j default) j = 0) s)
  (fun s => (fun i => [(0, .d (.sl (rows eC l))), (2, .ptr 0 0 0), (3, .d (.int .i64 (i : Nat)))]) s)
  (fun s => (fun i => [some (.one 27 [.d (.int .i64 0), .d (.int .i64 0)])]) s) (fun s => (fun i => l.length - i) s) hnp 0 ?_ [some 0] ?_ ?_
 dsimp only
 simp
 dsimp only
 refine ⟨by rfl, ?_, ?_⟩
 refine fin_ ?_
 exact cl_
 refine fin_ ?_
 exact cl_
 rintro i hinv N8 h8
 dsimp only at hinv ⊢
 obtain ⟨i1, i2⟩ := hinv
 refine vc_seq_k fun N9 h9 => ?_
 refine vc_seq_k fun N10 h10 => ?_
 refine u_reg ?_
 try refine lg_mk ?_
 iterate 2 refine u_mv ?_
 refine u_ln ?_
 refine u_bn ?_
 refine lg_nil ?_
 refine h10 _ ?_; clear h10; try clear N10
 refine u_cond (fun hb11 => ?_) (fun hb11 => ?_)
 obtain ⟨c, hce⟩ := getE (l := l) (i := i) (by omega)
 obtain ⟨hc1, hc2⟩ := hs c (mem_at hce)
 refine vc_skip ?_
 try simp only [k_rules]
 refine h9 _ ?_; clear h9; try clear N9
 refine vc_seq_k fun N12 h12 => ?_
 refine vc_block ?_
 refine vc_seq_k fun N13 h13 => ?_
 have hx := And.intro @hce (And.intro @eC.eq_1 hx0)
 refine u_reg ?_
 try refine lg_mk ?_
 iterate 2 refine u_mv ?_
 refine u_pt ?_
 refine u_ld ?_
 refine u_al ?_
 refine u_st ?_
 refine lg_nil ?_
 have hx := hx0
 refine h13 _ ?_; clear h13; try clear N13
 refine vc_seq_k fun N14 h14 => ?_
 refine vc_seq_k fun N15 h15 => ?_
 refine u_reg ?_
 try refine lg_mk ?_
 refine u_pt ?_
 refine u_ld ?_
 refine u_ln ?_
 refine u_bn ?_
 refine lg_nil ?_
 refine h15 _ ?_; clear h15; try clear N15
 refine u_cond (fun hb16 => ?_) (fun hb16 => ?_)
 refine vc_seq_k fun N17 h17 => ?_
 refine u_reg ?_
 try refine lg_mk ?_
 refine u_mv ?_
 have hc := call_rule (E := (E_validate.at_ 87)) (f := 26) (sp := Spec.pure faultG) rfl
 have hs := @faultG.eq_1
 refine u_cp ?_
 refine u_st ?_
 refine lg_nil ?_
 refine h17 _ ?_; clear h17; try clear N17
 refine vc_ret ?_
 try simp only [k_rules]
 rw [hist_at (l := l) (by omega) hce i2 (cm_few (by omega)) (by omega)]
 refine fin2_ ?_
 exact cl_
 refine vc_skip ?_
 try simp only [k_rules]
 refine h14 _ ?_; clear h14; try clear N14
 refine vc_seq_k fun N18 h18 => ?_
 refine vc_seq_k fun N19 h19 => ?_
 refine u_reg ?_
 try refine lg_mk ?_
 refine u_mv ?_
 refine lg_nil ?_
 refine h19 _ ?_; clear h19; try clear N19
 refine vc_block ?_
 refine vc_loop_mk (σ := Nat) (fun s => (fun k => k ≤ c.par.length ∧ ∀ j, j < k → parAt c.par i j = 0) s)
  (fun s => (fun k => [(0, .d (.sl (rows eC l))), (2, .ptr 0 0 0), (3, .d (.int .i64 (i : Nat))), (4, .ptr 1 0 0), (5, .d (.int .i64 (k : Nat)))]) s)
  (fun s => (fun k => [some (.one 27 [.d (.int .i64 0), .d (.int .i64 0)]), some (.one 74 [.d (.sl (rows eI c.par)), .d (.int .i64 c.au), .d (.int .i64 c.ti), .d (.int .i64 c.tr), .d (.str c.ms)])]) s) (fun s => (fun k => c.par.length - k) s) hnp 0 ?_ [some 0, some 1] ?_ ?_
 dsimp only
 simp
 dsimp only
 refine ⟨by rfl, ?_, ?_⟩
 refine fin_ ?_
 exact cl_
 refine fin_ ?_
 exact cl_
 rintro k hinv N20 h20
 dsimp only at hinv ⊢
 obtain ⟨j1, j2⟩ := hinv
 refine vc_seq_k fun N21 h21 => ?_
 refine vc_seq_k fun N22 h22 => ?_
 refine u_reg ?_
 try refine lg_mk ?_
 refine u_mv ?_
 refine u_pt ?_
 refine u_ld ?_
 refine u_ln ?_
 refine u_bn ?_
 refine lg_nil ?_
 refine h22 _ ?_; clear h22; try clear N22
 refine u_cond (fun hb23 => ?_) (fun hb23 => ?_)
 obtain ⟨p, hpe⟩ := getE (l := c.par) (i := k) (by omega)
 obtain ⟨q, hqe⟩ := getE (l := c.par) (i := ((k : Int) - 1).toNat) (by omega)
 refine vc_skip ?_
 try simp only [k_rules]
 refine h21 _ ?_; clear h21; try clear N21
 refine vc_seq_k fun N24 h24 => ?_
 refine vc_block ?_
 refine vc_seq_k fun N25 h25 => ?_
 refine vc_seq_k fun N26 h26 => ?_
 have hx := And.intro @hpe (And.intro @eI.eq_1 hx0)
 refine u_reg ?_
 try refine lg_mk ?_
 refine u_pt ?_
 refine u_ld ?_
 refine u_mv ?_
 refine u_pt ?_
 refine u_ld ?_
 refine u_mv ?_
 refine u_bn ?_
 have hc := call_rule (E := (E_validate.at_ 87)) (f := 38) (sp := Spec.pure inG) rfl
 have hs := @inG.eq_1
 refine u_cp ?_
 refine u_un ?_
 refine lg_nil ?_
 have hx := hx0
 refine h26 _ ?_; clear h26; try clear N26
 refine u_cond (fun hb27 => ?_) (fun hb27 => ?_)
 refine vc_seq_k fun N28 h28 => ?_
 refine u_reg ?_
 try refine lg_mk ?_
 refine u_mv ?_
 have hc := call_rule (E := (E_validate.at_ 87)) (f := 26) (sp := Spec.pure faultG) rfl
 have hs := @faultG.eq_1
 refine u_cp ?_
 refine u_st ?_
 refine lg_nil ?_
 refine h28 _ ?_; clear h28; try clear N28
 refine vc_ret ?_
 try simp only [k_rules]
 rw [hist_at (l := l) (by omega) hce i2 (cm_par (by omega) (show k < c.par.length by omega) j2 (par_3 hpe (by omega)) (by omega)) (by omega)]
 refine fin2_ ?_
 exact cl_
 refine vc_skip ?_
 try simp only [k_rules]
 refine h25 _ ?_; clear h25; try clear N25
 refine vc_seq_k fun N29 h29 => ?_
 have hx := And.intro @hpe (And.intro @hqe (And.intro @eI.eq_1 hx0))
 refine u_reg ?_
 try refine lg_mk ?_
 refine u_mv ?_
 refine u_bn ?_
 refine u_mv ?_
 refine g_pt ?_
 refine g_ld ?_
 refine g_mv ?_
 refine g_pt ?_
 refine g_ld ?_
 refine g_pt ?_
 refine g_ld ?_
 refine g_mv ?_
 refine g_bn ?_
 refine g_pt ?_
 refine g_ld ?_
 refine g_bn ?_
 refine u_pk ?_
 refine lg_nil ?_
 have hx := hx0
 refine h29 _ ?_; clear h29; try clear N29
 refine u_cond (fun hb30 => ?_) (fun hb30 => ?_)
 refine vc_seq_k fun N31 h31 => ?_
 refine u_reg ?_
 try refine lg_mk ?_
 refine u_mv ?_
 have hc := call_rule (E := (E_validate.at_ 87)) (f := 26) (sp := Spec.pure faultG) rfl
 have hs := @faultG.eq_1
 refine u_cp ?_
 refine u_st ?_
 refine lg_nil ?_
 refine h31 _ ?_; clear h31; try clear N31
 refine vc_ret ?_
 try simp only [k_rules]
 rw [hist_at (l := l) (by omega) hce i2 (cm_par (by omega) (show k < c.par.length by omega) j2 (par_5 hpe hqe (by omega) (by omega) (by omega) (by omega)) (by omega)) (by omega)]
 refine fin2_ ?_
 exact cl_
 refine vc_skip ?_
 try simp only [k_rules]
 refine h24 _ ?_; clear h24; try clear N24
 refine u_reg ?_
 try refine lg_mk ?_
 refine u_mv ?_
 refine u_bn ?_
 refine u_mv ?_
 refine lg_nil ?_
 refine h20 _ ⟨k + 1, ?_, ?_, [some 0, some 1], ?_⟩
 dsimp only
 exact ⟨by omega, lt_snoc j2 (par_0 hpe hqe (by omega) (by omega) (fun h => by omega))⟩
 dsimp only
 omega
 dsimp only
 refine ⟨by rfl, ?_, ?_⟩
 refine fin_ ?_
 exact cl_
 refine fin_ ?_
 exact cl_
 refine vc_exit ?_
 simp only [k_rules, Nat.reduceEqDiff, reduceIte, eq_self]
 refine h18 _ ?_; clear h18; try clear N18
 refine vc_seq_k fun N32 h32 => ?_
 refine vc_seq_k fun N33 h33 => ?_
 refine u_reg ?_
 try refine lg_mk ?_
 refine u_pt ?_
 refine u_ld ?_
 have hc := call_rule (E := (E_validate.at_ 87)) (f := 38) (sp := Spec.pure inG) rfl
 have hs := @inG.eq_1
 refine u_cp ?_
 refine u_un ?_
 refine u_mv ?_
 refine g_pt ?_
 refine g_ld ?_
 have hc := call_rule (E := (E_validate.at_ 87)) (f := 38) (sp := Spec.pure inG) rfl
 have hs := @inG.eq_1
 refine g_cp ?_
 refine g_un ?_
 refine u_pk ?_
 refine u_mv ?_
 refine g_pt ?_
 refine g_ld ?_
 have hc := call_rule (E := (E_validate.at_ 87)) (f := 52) (sp := Spec.pure isDigG) rfl
 have hs := @isDigG.eq_1
 refine g_cp ?_
 refine g_un ?_
 refine u_pk ?_
 refine lg_nil ?_
 refine h33 _ ?_; clear h33; try clear N33
 refine u_cond (fun hb34 => ?_) (fun hb34 => ?_)
 refine vc_seq_k fun N35 h35 => ?_
 refine u_reg ?_
 try refine lg_mk ?_
 refine u_mv ?_
 have hc := call_rule (E := (E_validate.at_ 87)) (f := 26) (sp := Spec.pure faultG) rfl
 have hs := @faultG.eq_1
 refine u_cp ?_
 refine u_st ?_
 refine lg_nil ?_
 refine h35 _ ?_; clear h35; try clear N35
 refine vc_ret ?_
 try simp only [k_rules]
 rw [hist_at (l := l) (by omega) hce i2 (cm_num (by omega) (fun j hj => j2 j (by omega)) (by omega)) (by omega)]
 refine fin2_ ?_
 exact cl_
 refine vc_skip ?_
 try simp only [k_rules]
 refine h32 _ ?_; clear h32; try clear N32
 refine vc_seq_k fun N36 h36 => ?_
 refine u_reg ?_
 try refine lg_mk ?_
 refine u_pt ?_
 refine u_ld ?_
 refine u_ln ?_
 refine u_bn ?_
 refine lg_nil ?_
 refine h36 _ ?_; clear h36; try clear N36
 refine u_cond (fun hb37 => ?_) (fun hb37 => ?_)
 refine vc_seq_k fun N38 h38 => ?_
 refine u_reg ?_
 try refine lg_mk ?_
 refine u_mv ?_
 have hc := call_rule (E := (E_validate.at_ 87)) (f := 26) (sp := Spec.pure faultG) rfl
 have hs := @faultG.eq_1
 refine u_cp ?_
 refine u_st ?_
 refine lg_nil ?_
 refine h38 _ ?_; clear h38; try clear N38
 refine vc_ret ?_
 try simp only [k_rules]
 rw [hist_at (l := l) (by omega) hce i2 (cm_msg (by omega) (fun j hj => j2 j (by omega)) (by omega) (by omega) (by omega) (if_pos (by omega))) (by omega)]
 refine fin2_ ?_
 exact cl_
 refine vc_skip ?_
 try simp only [k_rules]
 refine h12 _ ?_; clear h12; try clear N12
 refine u_reg ?_
 try refine lg_mk ?_
 refine u_mv ?_
 refine u_bn ?_
 refine u_mv ?_
 refine lg_nil ?_
 refine h8 _ ⟨i + 1, ?_, ?_, [some 0], ?_⟩
 dsimp only
 exact ⟨by omega, lt_snoc i2 (by rw [getD_of hce]; exact cm_msg (by omega) (fun j hj => j2 j (by omega)) (by omega) (by omega) (by omega) (if_neg (by omega)))⟩
 dsimp only
 omega
 dsimp only
 refine ⟨by rfl, ?_, ?_⟩
 refine fin_ ?_
 exact cl_
 refine fin_ ?_
 exact cl_
 refine vc_exit ?_
 simp only [k_rules, Nat.reduceEqDiff, reduceIte, eq_self]
 refine h6 _ ?_; clear h6; try clear N6
 refine vc_seq_k fun N39 h39 => ?_
 refine u_reg ?_
 try refine lg_mk ?_
 refine u_bd ?_
 refine u_st ?_
 refine lg_nil ?_
 refine h39 _ ?_; clear h39; try clear N39
 refine vc_ret ?_
 try simp only [k_rules]
 rw [hist_ok (l := l) (by omega) (fun j hj => i2 j (by omega))]
 refine fin2_ ?_
 exact cl_
 cases hg

def E_histFault : Env Tryd.prog := E_validate.add 25 (Spec.pure histG) histFault_meets (by kernel_rfl)
end Go.Proofs.YtlbjffdaooadoaaDoor
