/- Walks, printed by wip/gen/walk.py. -/
import Derived.Test.YtlbjffdaooadoaaDoorT25
import Derived.Test.YtlbjffdaooadoaaDoorV5
set_option linter.all false
set_option maxRecDepth 100000
set_option maxHeartbeats 4000000
namespace Go.Proofs.YtlbjffdaooadoaaDoor
open Go Go.Vc Go.RowKit
theorem bindF_tot {r : PR} {k : Int → PS → PR} (h : r.isSome = true) (hk : ∀ x s, r = some (true, x, s) → (k x s).isSome = true) : (bindF r k).isSome = true := by
  obtain ⟨b, x, s, rfl⟩ := some_of h
  cases b with
  | false => rfl
  | true => exact hk x s rfl
theorem takeF_tot {t : Bs} {s : PS} {x : Bs} {k : PS → PR} (hk : takeB t s x = true → (k (scanS t s)).isSome = true) : (takeF t s x k).isSome = true := by
  unfold takeF
  split
  · exact hk (by assumption)
  · rfl
theorem numF_tot {t : Bs} {s : PS} {k : Int} {f : Int → PS → PR} (hk : numB t s k = true → (f (numX t s k) (numS t s k)).isSome = true) : (numF t s k f).isSome = true := by
  unfold numF
  split
  · exact hk (by assumption)
  · rfl
theorem lpF_tot {t : Bs} {sub : PS → PR} {j p0 : Nat} (hpr : ∀ s x s', wfS t s → sub s = some (true, x, s') → Pr2 t s s') (hsub : ∀ s, wfS t s → p0 < s.p → (sub s).isSome = true) :
    ∀ (g : Nat) (x : Int) (s : PS), wfS t s → p0 ≤ s.p → t.length - s.p < g → (lpF t sub j g x s).isSome = true
  | 0, _, _, _, _, h => by omega
  | g + 1, x, s, hw, h0, hg => by
    unfold lpF
    split
    · rfl
    · rename_i ho
      have p1 := scan_pr1 hw (opK_ne ho)
      refine bindF_tot (hsub _ p1.1 (by have := p1.2.1; omega)) fun y s1 h1 => ?_
      have p2 := p1.trans (hpr _ _ _ p1.1 h1).1
      have q1 := p2.1.1
      have q2 := p2.1.2
      have q3 := p2.2.1
      exact lpF_tot hpr hsub g _ _ (p2.add _).1.1 (by show p0 ≤ s1.p; omega) (by show t.length - s1.p < g; omega)
theorem prF_tot {t : Bs} {qu : PS → PR} {s : PS} (hpr : ∀ s x s', wfS t s → qu s = some (true, x, s') → Pr2 t s s') (hw : wfS t s) (hq : ∀ s', wfS t s' → s.p < s'.p → (qu s').isSome = true) : (prF t qu s).isSome = true := by
  unfold prF
  split
  · exact numF_tot fun _ => rfl
  · split
    · rename_i hk
      have p1 := scan_pr1 hw (by rw [hk]; simp)
      obtain ⟨b, x, s1, h1⟩ := some_of (hq _ p1.1 (by have := p1.2.1; omega))
      rw [h1]
      cases b <;> rfl
    · split
      · rfl
      · rename_i hk
        have p1 := scan_pr1 hw (kindN_ne hk)
        split
        · rfl
        · refine takeF_tot fun h1 => ?_
          have p2 := p1.trans (take_pr1 p1.1 h1).weak
          split
          · exact numF_tot fun _ => takeF_tot fun _ => rfl
          · exact bindF_tot (hq _ p2.1 (by have := p2.2.1; omega)) fun x s2 _ => takeF_tot fun _ => rfl
theorem pF_tot {t : Bs} : ∀ (f j : Nat) (s : PS), j ≤ 4 → wfS t s → 5 * (t.length - s.p) + (4 - j) < f → (pF t f j s).isSome = true
  | 0, _, _, _, _, h => by omega
  | f + 1, j, s, hj, hw, h => by
    have ih := pF_tot (t := t) f
    have hp : s.p ≤ t.length := Nat.le_trans hw.1 hw.2
    unfold pF
    split
    · refine bindF_tot (ih _ _ (by omega) hw (by omega)) fun x s1 h1 => ?_
      have p1 := pF_pr f _ _ _ _ hw h1
      have q1 := p1.2
      have q2 := p1.1.1.1
      have q3 := p1.1.1.2
      exact lpF_tot (p0 := s.p) (fun s x s' hw h => pF_pr f _ s x s' hw h) (fun s' hw' hs' => ih _ _ (by omega) hw' (by have := hw'.1; have := hw'.2; omega)) _ _ _ p1.1.1 (by omega) (by omega)
    · split
      · exact ih _ _ (by omega) hw (by omega)
      · split
        · split
          · rename_i hk
            have p1 := scan_pr1 hw (by rw [hk]; simp)
            have q1 := p1.2.1
            have q2 := p1.1.1
            have q3 := p1.1.2
            exact bindF_tot (ih _ _ (by omega) p1.1 (by omega)) fun _ _ _ => rfl
          · exact ih _ _ (by omega) hw (by omega)
        · exact prF_tot (fun s x s' hw h => pF_pr f _ s x s' hw h) hw fun s' hw' hs' => ih _ _ (by omega) hw' (by have := hw'.1; have := hw'.2; omega)
theorem all_steps : ∀ n, Meets Tryd.prog 57 (Spec.gen (qryG n)) ∧ Meets Tryd.prog 77 (Spec.gen (prsG n 3)) ∧ Meets Tryd.prog 85 (Spec.gen (prsG n 4))
  | 0 => by
    have hv : ∀ j a b p r bf, prsG 0 j a b = some (p, r, bf) → ¬p := by
      intro j a b p r bf h hp
      unfold prsG at h
      split at h
      · simp only [Option.some.injEq, Prod.mk.injEq] at h
        obtain ⟨rfl, _⟩ := h
        exact absurd hp.2 (by simp [pF])
      · cases h
    refine ⟨meets_void fun a b p r bf h hp => ?_, meets_void (hv 3), meets_void (hv 4)⟩
    unfold qryG at h
    split at h
    · simp only [Option.some.injEq, Prod.mk.injEq] at h
      obtain ⟨rfl, _⟩ := h
      exact absurd hp.2.2.2 (by simp [pF])
    · cases h
  | n + 1 => by
    obtain ⟨h1, h2, h3⟩ := all_steps n
    exact ⟨qry_step n h1 h2 h3, una_step n h1 h2 h3, pri_step n h1 h2 h3⟩
def fuB : List (Option Box) → Nat
  | [some (.one _ [.d (.str t), .d (.int .i64 _), .d (.int .i64 _), .sl 1 0 _, .d (.int .i64 _)]), some (.vec _ _ _)] => fuelN t
  | _ => 0
def qryA : GFun
  | [.ptr 0 0 0, .d (.int .i64 l)], [some (.one ty [.d (.str t), .d (.int .i64 p), .d (.int .i64 e), .sl 1 0 n, .d (.int .i64 c)]), some (.vec vt sz xs)] => some (0 ≤ l ∧ l ≤ 2 ∧ preP ty vt sz n t p e xs ∧ (pF t (fuelN t) l.toNat ⟨p.toNat, e.toNat, dN xs, c⟩).isSome = true, .tup [.d (.int .i64 (resX (pF t (fuelN t) l.toNat ⟨p.toNat, e.toNat, dN xs, c⟩))), .d (.bool (resB (pF t (fuelN t) l.toNat ⟨p.toNat, e.toNat, dN xs, c⟩)))], resBx t (pF t (fuelN t) l.toNat ⟨p.toNat, e.toNat, dN xs, c⟩))
  | _, _ => none
theorem qryA_is : qryA = fun a b => qryG ((fun _ b => fuB b) a b) a b := by
  funext a b
  unfold qryA
  split
  · rfl
  · rename_i h
    unfold qryG
    split
    · rename_i l ty t p e n c vt sz xs
      exact absurd rfl (h l ty t p e n c vt sz xs rfl)
    · rfl
theorem qryA_meets : Meets Tryd.prog 57 (Spec.gen qryA) := by
 rw [qryA_is]
 exact meets_union (fun _ b => fuB b) fun n => (all_steps n).1

def E_qryA : Env Tryd.prog := E_num.add 57 (Spec.gen qryA) qryA_meets (by kernel_rfl)

def parsG : List AV → Option (Prop × AV)
  | [.d (.str t)] => some (t.length ≤ 9223372036854775807, .tup [.agg [.d (.sl (rows eN (parsQ t).2.2))], .agg [.d (.int .i64 (parsQ t).1), .d (.int .i64 (parsQ t).2.1)]])
  | _ => none
theorem dN_nil : dN [] = [] := rfl

theorem pars_meets : Meets Tryd.prog 29 (Spec.pure parsG) := by
 refine meets_fun (E_qryA.at_ 46) Tryd.func29 rfl rfl rfl ?_
 intro args p r hg hp
 unfold parsG at hg
 split at hg
 rename_i t
 simp only [Option.some.injEq, Prod.mk.injEq] at hg
 obtain ⟨rfl, rfl⟩ := hg
 have htl := hp
 have hT : (E_qryA).X = T := rfl
 have hx0 := And.intro @dec_t (And.intro @dec_f (And.intro @Int.toNat_natCast (And.intro @rdB.eq_1 (And.intro @psB.eq_1 (And.intro @dN_rows (And.intro @rect_eN (And.intro @resX_s (And.intro @resB_s (And.intro @resBx_t (And.intro @resBx_f (And.intro @ps_eta (And.intro @dN_nil @Tryd.results29))))))))))))
 have hx := hx0
 refine ⟨by rfl, ?_⟩
 intro F W0 hnp hmk
 refine vc_seq_k fun N1 h1 => ?_
 refine u_reg ?_
 try refine lg_mk ?_
 iterate 2 refine u_al ?_
 refine lg_nil ?_
 refine h1 _ ?_; clear h1; try clear N1
 refine vc_seq_k fun N2 h2 => ?_
 refine vc_seq_k fun N3 h3 => ?_
 refine u_reg ?_
 try refine lg_mk ?_
 refine u_mv ?_
 refine u_ln ?_
 refine u_bn ?_
 refine lg_nil ?_
 refine h3 _ ?_; clear h3; try clear N3
 refine u_cond (fun hb4 => ?_) (fun hb4 => ?_)
 refine vc_seq_k fun N5 h5 => ?_
 refine u_reg ?_
 try refine lg_mk ?_
 iterate 2 refine u_bd ?_
 iterate 2 refine u_st ?_
 refine lg_nil ?_
 refine h5 _ ?_; clear h5; try clear N5
 refine vc_ret ?_
 try simp only [k_rules]
 have hr : parsQ t = (2, -1, []) := by unfold parsQ; rw [if_pos (by have := hb4; omega)]
 rw [hr]
 refine fin2_ ?_
 exact cl_
 have hl3 : t.length ≤ 300 := by have := hb4; omega
 obtain ⟨hp1, hp2⟩ := scnP_le (t := t) (e := 0) (by omega)
 obtain ⟨he1, he2⟩ := scnE_le (t := t) (p := scnP t 0) hp2
 have hw0 : wfS t ⟨scnP t 0, scnE t (scnP t 0), [], 0⟩ := ⟨he1, he2⟩
 have hsm := pF_tot (fuelN t) 0 _ (by omega) hw0 (by unfold fuelN; dsimp only; omega)
 refine vc_skip ?_
 try simp only [k_rules]
 refine h2 _ ?_; clear h2; try clear N2
 refine vc_seq_k fun N6 h6 => ?_
 refine u_reg ?_
 try refine lg_mk ?_
 refine u_mv ?_
 refine u_bd ?_
 refine u_al ?_
 refine u_st ?_
 refine lg_nil ?_
 refine h6 _ ?_; clear h6; try clear N6
 refine vc_seq_k fun N7 h7 => ?_
 refine vc_nil1 2 3 _ 4 (vec_nil 39 4) rfl rfl rfl ?_
 simp only [updL, List.set, List.cons_append, List.nil_append]
 refine u_reg ?_
 try refine lg_mk ?_
 have hc := call_rule (E := (E_qryA.at_ 46)) (f := 56) (sp := Spec.gen scanG) rfl
 have hs := @scanG.eq_1
 refine u_hg (hq := by exact so_) ?_
 refine lg_nil ?_
 refine h7 _ ?_; clear h7; try clear N7
 refine vc_seq_k fun N8 h8 => ?_
 obtain ⟨b, x, s1, hR⟩ := some_of hsm
 have hsn := fun (h : b = true) => ns_fit hw0 (h ▸ hR) (by show 0 ≤ _; omega) (by omega : t.length ≤ 1000000)
 rcases b with _ | _
 have hsn := hR
 have hx := And.intro @hR hx0
 refine u_reg ?_
 try refine lg_mk ?_
 have hc := call_rule (E := (E_qryA.at_ 46)) (f := 57) (sp := Spec.gen qryA) rfl
 have hs := @qryA.eq_1
 refine u_hg (hq := by (first | (refine ⟨by decide, by decide, preP_ok (q := []) (Nat.zero_le _) (by omega) (by omega) (by omega), ?_⟩; first | rfl | (rw [hR]; rfl) | (simp only [dN_nil, Int.toNat_natCast, hR]; rfl)) | exact sd_)) ?_
 refine u_mv ?_
 iterate 2 refine u_ex ?_
 iterate 2 refine u_mv ?_
 refine lg_nil ?_
 have hx := hx0
 refine h8 _ ?_; clear h8; try clear N8
 refine vc_seq_k fun N9 h9 => ?_
 refine vc_seq_k fun N10 h10 => ?_
 refine u_reg ?_
 try refine lg_mk ?_
 iterate 2 refine u_mv ?_
 refine g_pt ?_
 refine g_ld ?_
 refine g_mv ?_
 refine g_ln ?_
 refine g_bn ?_
 refine u_pk ?_
 refine lg_nil ?_
 refine h10 _ ?_; clear h10; try clear N10
 refine u_cond (fun hb11 => ?_) (fun hb11 => ?_)
 ·first | omega | exact absurd trivial hb11 | contradiction | (simp_all; done)
 refine vc_skip ?_
 try simp only [k_rules]
 refine h9 _ ?_; clear h9; try clear N9
 refine vc_seq_k fun N12 h12 => ?_
 refine vc_seq_k fun N13 h13 => ?_
 refine u_reg ?_
 try refine lg_mk ?_
 refine u_mv ?_
 refine u_un ?_
 refine lg_nil ?_
 refine h13 _ ?_; clear h13; try clear N13
 refine u_cond (fun hb14 => ?_) (fun hb14 => ?_)
 refine vc_seq_k fun N15 h15 => ?_
 refine vc_regT [] (.seq [0] (.alt 1 (.alt 2 (.alt 3 (.alt 4 (.alt 5 (.seq [6, 7] .nil) (.alt 6 (.seq [5, 7] .nil) .nil)) (.alt 6 (.seq [4, 5, 7] .nil) .nil)) (.alt 6 (.seq [3, 4, 5, 7] .nil) .nil)) (.alt 3 (.alt 2 (.alt 4 (.alt 5 (.seq [6, 7] .nil) (.alt 6 (.seq [5, 7] .nil) .nil)) (.alt 6 (.seq [4, 5, 7] .nil) .nil)) (.alt 4 (.alt 2 (.alt 5 (.seq [6, 7] .nil) (.alt 6 (.seq [5, 7] .nil) .nil)) (.alt 6 (.seq [2, 5, 7] .nil) .nil)) (.alt 6 (.seq [2, 4, 5, 7] .nil) .nil))) (.alt 6 (.seq [2, 3, 4, 5, 7] .nil) .nil))) (.alt 3 (.alt 1 (.alt 2 (.alt 4 (.alt 5 (.seq [6, 7] .nil) (.alt 6 (.seq [5, 7] .nil) .nil)) (.alt 6 (.seq [4, 5, 7] .nil) .nil)) (.alt 4 (.alt 2 (.alt 5 (.seq [6, 7] .nil) (.alt 6 (.seq [5, 7] .nil) .nil)) (.alt 6 (.seq [2, 5, 7] .nil) .nil)) (.alt 6 (.seq [2, 4, 5, 7] .nil) .nil))) (.alt 4 (.alt 1 (.alt 2 (.alt 5 (.seq [6, 7] .nil) (.alt 6 (.seq [5, 7] .nil) .nil)) (.alt 6 (.seq [2, 5, 7] .nil) .nil)) (.alt 6 (.seq [1, 2, 5, 7] .nil) .nil)) (.alt 6 (.seq [1, 2, 4, 5, 7] .nil) .nil))) (.alt 6 (.seq [1, 2, 3, 4, 5, 7] .nil) .nil)))) hmix (by kernel_rfl) ?_
 refine at_seq ?_
 simp only [pick_rules, list_rules]
 try refine lg_mk ?_
 refine u_bd ?_
 refine lg_nil ?_
 refine at_alt ?_ ?_
 simp only [pick_rules, list_rules]
 try refine lg_mk ?_
 refine u_pt ?_
 refine lg_nil ?_
 refine at_alt ?_ ?_
 simp only [pick_rules, list_rules]
 try refine lg_mk ?_
 refine u_ld ?_
 refine lg_nil ?_
 refine at_alt ?_ ?_
 simp only [pick_rules, list_rules]
 try refine lg_mk ?_
 refine u_pt ?_
 refine lg_nil ?_
 refine at_alt ?_ ?_
 simp only [pick_rules, list_rules]
 try refine lg_mk ?_
 refine u_ld ?_
 refine lg_nil ?_
 refine at_alt ?_ ?_
 simp only [pick_rules, list_rules]
 try refine lg_mk ?_
 refine u_bd ?_
 refine lg_nil ?_
 refine at_seq ?_
 simp only [pick_rules, list_rules]
 try refine lg_mk ?_
 iterate 2 refine u_st ?_
 refine lg_nil ?_
 refine at_nil ?_
 refine h15 _ ?_; clear h15; try clear N15
 refine vc_ret ?_
 try simp only [k_rules]
 have hr : parsQ t = (s1.c, (s1.p : Int), []) := by unfold parsQ; rw [if_neg (by omega), scan_mk, hR]
 rw [hr]
 refine fin2_ ?_
 exact cl_
 refine at_alt ?_ ?_
 simp only [pick_rules, list_rules]
 try refine lg_mk ?_
 refine u_st ?_
 refine lg_nil ?_
 refine at_seq ?_
 simp only [pick_rules, list_rules]
 try refine lg_mk ?_
 refine u_bd ?_
 refine u_st ?_
 refine lg_nil ?_
 refine at_nil ?_
 refine h15 _ ?_; clear h15; try clear N15
 refine vc_ret ?_
 try simp only [k_rules]
 have hr : parsQ t = (s1.c, (s1.p : Int), []) := by unfold parsQ; rw [if_neg (by omega), scan_mk, hR]
 rw [hr]
 refine fin2_ ?_
 exact cl_
 exact at_end
 refine at_alt ?_ ?_
 simp only [pick_rules, list_rules]
 try refine lg_mk ?_
 refine u_st ?_
 refine lg_nil ?_
 refine at_seq ?_
 simp only [pick_rules, list_rules]
 try refine lg_mk ?_
 refine u_ld ?_
 refine u_bd ?_
 refine u_st ?_
 refine lg_nil ?_
 refine at_nil ?_
 refine h15 _ ?_; clear h15; try clear N15
 refine vc_ret ?_
 try simp only [k_rules]
 have hr : parsQ t = (s1.c, (s1.p : Int), []) := by unfold parsQ; rw [if_neg (by omega), scan_mk, hR]
 rw [hr]
 refine fin2_ ?_
 exact cl_
 exact at_end
 refine at_alt ?_ ?_
 simp only [pick_rules, list_rules]
 try refine lg_mk ?_
 refine u_st ?_
 refine lg_nil ?_
 refine at_seq ?_
 simp only [pick_rules, list_rules]
 try refine lg_mk ?_
 refine u_pt ?_
 refine u_ld ?_
 refine u_bd ?_
 refine u_st ?_
 refine lg_nil ?_
 refine at_nil ?_
 refine h15 _ ?_; clear h15; try clear N15
 refine vc_ret ?_
 try simp only [k_rules]
 have hr : parsQ t = (s1.c, (s1.p : Int), []) := by unfold parsQ; rw [if_neg (by omega), scan_mk, hR]
 rw [hr]
 refine fin2_ ?_
 exact cl_
 exact at_end
 refine at_alt ?_ ?_
 simp only [pick_rules, list_rules]
 try refine lg_mk ?_
 refine u_pt ?_
 refine lg_nil ?_
 refine at_alt ?_ ?_
 simp only [pick_rules, list_rules]
 try refine lg_mk ?_
 refine u_ld ?_
 refine lg_nil ?_
 refine at_alt ?_ ?_
 simp only [pick_rules, list_rules]
 try refine lg_mk ?_
 refine u_ld ?_
 refine lg_nil ?_
 refine at_alt ?_ ?_
 simp only [pick_rules, list_rules]
 try refine lg_mk ?_
 refine u_bd ?_
 refine lg_nil ?_
 refine at_seq ?_
 simp only [pick_rules, list_rules]
 try refine lg_mk ?_
 iterate 2 refine u_st ?_
 refine lg_nil ?_
 refine at_nil ?_
 refine h15 _ ?_; clear h15; try clear N15
 refine vc_ret ?_
 try simp only [k_rules]
 have hr : parsQ t = (s1.c, (s1.p : Int), []) := by unfold parsQ; rw [if_neg (by omega), scan_mk, hR]
 rw [hr]
 refine fin2_ ?_
 exact cl_
 refine at_alt ?_ ?_
 simp only [pick_rules, list_rules]
 try refine lg_mk ?_
 refine u_st ?_
 refine lg_nil ?_
 refine at_seq ?_
 simp only [pick_rules, list_rules]
 try refine lg_mk ?_
 refine u_bd ?_
 refine u_st ?_
 refine lg_nil ?_
 refine at_nil ?_
 refine h15 _ ?_; clear h15; try clear N15
 refine vc_ret ?_
 try simp only [k_rules]
 have hr : parsQ t = (s1.c, (s1.p : Int), []) := by unfold parsQ; rw [if_neg (by omega), scan_mk, hR]
 rw [hr]
 refine fin2_ ?_
 exact cl_
 exact at_end
 refine at_alt ?_ ?_
 simp only [pick_rules, list_rules]
 try refine lg_mk ?_
 refine u_st ?_
 refine lg_nil ?_
 refine at_seq ?_
 simp only [pick_rules, list_rules]
 try refine lg_mk ?_
 refine u_ld ?_
 refine u_bd ?_
 refine u_st ?_
 refine lg_nil ?_
 refine at_nil ?_
 refine h15 _ ?_; clear h15; try clear N15
 refine vc_ret ?_
 try simp only [k_rules]
 have hr : parsQ t = (s1.c, (s1.p : Int), []) := by unfold parsQ; rw [if_neg (by omega), scan_mk, hR]
 rw [hr]
 refine fin2_ ?_
 exact cl_
 exact at_end
 refine at_alt ?_ ?_
 simp only [pick_rules, list_rules]
 try refine lg_mk ?_
 refine u_ld ?_
 refine lg_nil ?_
 refine at_alt ?_ ?_
 simp only [pick_rules, list_rules]
 try refine lg_mk ?_
 refine u_ld ?_
 refine lg_nil ?_
 refine at_alt ?_ ?_
 simp only [pick_rules, list_rules]
 try refine lg_mk ?_
 refine u_bd ?_
 refine lg_nil ?_
 refine at_seq ?_
 simp only [pick_rules, list_rules]
 try refine lg_mk ?_
 iterate 2 refine u_st ?_
 refine lg_nil ?_
 refine at_nil ?_
 refine h15 _ ?_; clear h15; try clear N15
 refine vc_ret ?_
 try simp only [k_rules]
 have hr : parsQ t = (s1.c, (s1.p : Int), []) := by unfold parsQ; rw [if_neg (by omega), scan_mk, hR]
 rw [hr]
 refine fin2_ ?_
 exact cl_
 refine at_alt ?_ ?_
 simp only [pick_rules, list_rules]
 try refine lg_mk ?_
 refine u_st ?_
 refine lg_nil ?_
 refine at_seq ?_
 simp only [pick_rules, list_rules]
 try refine lg_mk ?_
 refine u_bd ?_
 refine u_st ?_
 refine lg_nil ?_
 refine at_nil ?_
 refine h15 _ ?_; clear h15; try clear N15
 refine vc_ret ?_
 try simp only [k_rules]
 have hr : parsQ t = (s1.c, (s1.p : Int), []) := by unfold parsQ; rw [if_neg (by omega), scan_mk, hR]
 rw [hr]
 refine fin2_ ?_
 exact cl_
 exact at_end
 refine at_alt ?_ ?_
 simp only [pick_rules, list_rules]
 try refine lg_mk ?_
 refine u_st ?_
 refine lg_nil ?_
 refine at_seq ?_
 simp only [pick_rules, list_rules]
 try refine lg_mk ?_
 refine u_ld ?_
 refine u_bd ?_
 refine u_st ?_
 refine lg_nil ?_
 refine at_nil ?_
 refine h15 _ ?_; clear h15; try clear N15
 refine vc_ret ?_
 try simp only [k_rules]
 have hr : parsQ t = (s1.c, (s1.p : Int), []) := by unfold parsQ; rw [if_neg (by omega), scan_mk, hR]
 rw [hr]
 refine fin2_ ?_
 exact cl_
 exact at_end
 refine at_alt ?_ ?_
 simp only [pick_rules, list_rules]
 try refine lg_mk ?_
 refine u_st ?_
 refine lg_nil ?_
 refine at_seq ?_
 simp only [pick_rules, list_rules]
 try refine lg_mk ?_
 iterate 2 refine u_ld ?_
 refine u_bd ?_
 refine u_st ?_
 refine lg_nil ?_
 refine at_nil ?_
 refine h15 _ ?_; clear h15; try clear N15
 refine vc_ret ?_
 try simp only [k_rules]
 have hr : parsQ t = (s1.c, (s1.p : Int), []) := by unfold parsQ; rw [if_neg (by omega), scan_mk, hR]
 rw [hr]
 refine fin2_ ?_
 exact cl_
 exact at_end
 refine at_alt ?_ ?_
 simp only [pick_rules, list_rules]
 try refine lg_mk ?_
 refine u_st ?_
 refine lg_nil ?_
 refine at_seq ?_
 simp only [pick_rules, list_rules]
 try refine lg_mk ?_
 refine u_ld ?_
 refine u_pt ?_
 refine u_ld ?_
 refine u_bd ?_
 refine u_st ?_
 refine lg_nil ?_
 refine at_nil ?_
 refine h15 _ ?_; clear h15; try clear N15
 refine vc_ret ?_
 try simp only [k_rules]
 have hr : parsQ t = (s1.c, (s1.p : Int), []) := by unfold parsQ; rw [if_neg (by omega), scan_mk, hR]
 rw [hr]
 refine fin2_ ?_
 exact cl_
 exact at_end
 refine at_alt ?_ ?_
 simp only [pick_rules, list_rules]
 try refine lg_mk ?_
 refine u_pt ?_
 refine lg_nil ?_
 refine at_alt ?_ ?_
 simp only [pick_rules, list_rules]
 try refine lg_mk ?_
 refine u_pt ?_
 refine lg_nil ?_
 refine at_alt ?_ ?_
 simp only [pick_rules, list_rules]
 try refine lg_mk ?_
 refine u_ld ?_
 refine lg_nil ?_
 refine at_alt ?_ ?_
 simp only [pick_rules, list_rules]
 try refine lg_mk ?_
 refine u_ld ?_
 refine lg_nil ?_
 refine at_alt ?_ ?_
 simp only [pick_rules, list_rules]
 try refine lg_mk ?_
 refine u_bd ?_
 refine lg_nil ?_
 refine at_seq ?_
 simp only [pick_rules, list_rules]
 try refine lg_mk ?_
 iterate 2 refine u_st ?_
 refine lg_nil ?_
 refine at_nil ?_
 refine h15 _ ?_; clear h15; try clear N15
 refine vc_ret ?_
 try simp only [k_rules]
 have hr : parsQ t = (s1.c, (s1.p : Int), []) := by unfold parsQ; rw [if_neg (by omega), scan_mk, hR]
 rw [hr]
 refine fin2_ ?_
 exact cl_
 refine at_alt ?_ ?_
 simp only [pick_rules, list_rules]
 try refine lg_mk ?_
 refine u_st ?_
 refine lg_nil ?_
 refine at_seq ?_
 simp only [pick_rules, list_rules]
 try refine lg_mk ?_
 refine u_bd ?_
 refine u_st ?_
 refine lg_nil ?_
 refine at_nil ?_
 refine h15 _ ?_; clear h15; try clear N15
 refine vc_ret ?_
 try simp only [k_rules]
 have hr : parsQ t = (s1.c, (s1.p : Int), []) := by unfold parsQ; rw [if_neg (by omega), scan_mk, hR]
 rw [hr]
 refine fin2_ ?_
 exact cl_
 exact at_end
 refine at_alt ?_ ?_
 simp only [pick_rules, list_rules]
 try refine lg_mk ?_
 refine u_st ?_
 refine lg_nil ?_
 refine at_seq ?_
 simp only [pick_rules, list_rules]
 try refine lg_mk ?_
 refine u_ld ?_
 refine u_bd ?_
 refine u_st ?_
 refine lg_nil ?_
 refine at_nil ?_
 refine h15 _ ?_; clear h15; try clear N15
 refine vc_ret ?_
 try simp only [k_rules]
 have hr : parsQ t = (s1.c, (s1.p : Int), []) := by unfold parsQ; rw [if_neg (by omega), scan_mk, hR]
 rw [hr]
 refine fin2_ ?_
 exact cl_
 exact at_end
 refine at_alt ?_ ?_
 simp only [pick_rules, list_rules]
 try refine lg_mk ?_
 refine u_ld ?_
 refine lg_nil ?_
 refine at_alt ?_ ?_
 simp only [pick_rules, list_rules]
 try refine lg_mk ?_
 refine u_ld ?_
 refine lg_nil ?_
 refine at_alt ?_ ?_
 simp only [pick_rules, list_rules]
 try refine lg_mk ?_
 refine u_bd ?_
 refine lg_nil ?_
 refine at_seq ?_
 simp only [pick_rules, list_rules]
 try refine lg_mk ?_
 iterate 2 refine u_st ?_
 refine lg_nil ?_
 refine at_nil ?_
 refine h15 _ ?_; clear h15; try clear N15
 refine vc_ret ?_
 try simp only [k_rules]
 have hr : parsQ t = (s1.c, (s1.p : Int), []) := by unfold parsQ; rw [if_neg (by omega), scan_mk, hR]
 rw [hr]
 refine fin2_ ?_
 exact cl_
 refine at_alt ?_ ?_
 simp only [pick_rules, list_rules]
 try refine lg_mk ?_
 refine u_st ?_
 refine lg_nil ?_
 refine at_seq ?_
 simp only [pick_rules, list_rules]
 try refine lg_mk ?_
 refine u_bd ?_
 refine u_st ?_
 refine lg_nil ?_
 refine at_nil ?_
 refine h15 _ ?_; clear h15; try clear N15
 refine vc_ret ?_
 try simp only [k_rules]
 have hr : parsQ t = (s1.c, (s1.p : Int), []) := by unfold parsQ; rw [if_neg (by omega), scan_mk, hR]
 rw [hr]
 refine fin2_ ?_
 exact cl_
 exact at_end
 refine at_alt ?_ ?_
 simp only [pick_rules, list_rules]
 try refine lg_mk ?_
 refine u_st ?_
 refine lg_nil ?_
 refine at_seq ?_
 simp only [pick_rules, list_rules]
 try refine lg_mk ?_
 refine u_ld ?_
 refine u_bd ?_
 refine u_st ?_
 refine lg_nil ?_
 refine at_nil ?_
 refine h15 _ ?_; clear h15; try clear N15
 refine vc_ret ?_
 try simp only [k_rules]
 have hr : parsQ t = (s1.c, (s1.p : Int), []) := by unfold parsQ; rw [if_neg (by omega), scan_mk, hR]
 rw [hr]
 refine fin2_ ?_
 exact cl_
 exact at_end
 refine at_alt ?_ ?_
 simp only [pick_rules, list_rules]
 try refine lg_mk ?_
 refine u_st ?_
 refine lg_nil ?_
 refine at_seq ?_
 simp only [pick_rules, list_rules]
 try refine lg_mk ?_
 iterate 2 refine u_ld ?_
 refine u_bd ?_
 refine u_st ?_
 refine lg_nil ?_
 refine at_nil ?_
 refine h15 _ ?_; clear h15; try clear N15
 refine vc_ret ?_
 try simp only [k_rules]
 have hr : parsQ t = (s1.c, (s1.p : Int), []) := by unfold parsQ; rw [if_neg (by omega), scan_mk, hR]
 rw [hr]
 refine fin2_ ?_
 exact cl_
 exact at_end
 refine at_alt ?_ ?_
 simp only [pick_rules, list_rules]
 try refine lg_mk ?_
 refine u_ld ?_
 refine lg_nil ?_
 refine at_alt ?_ ?_
 simp only [pick_rules, list_rules]
 try refine lg_mk ?_
 refine u_pt ?_
 refine lg_nil ?_
 refine at_alt ?_ ?_
 simp only [pick_rules, list_rules]
 try refine lg_mk ?_
 refine u_ld ?_
 refine lg_nil ?_
 refine at_alt ?_ ?_
 simp only [pick_rules, list_rules]
 try refine lg_mk ?_
 refine u_bd ?_
 refine lg_nil ?_
 refine at_seq ?_
 simp only [pick_rules, list_rules]
 try refine lg_mk ?_
 iterate 2 refine u_st ?_
 refine lg_nil ?_
 refine at_nil ?_
 refine h15 _ ?_; clear h15; try clear N15
 refine vc_ret ?_
 try simp only [k_rules]
 have hr : parsQ t = (s1.c, (s1.p : Int), []) := by unfold parsQ; rw [if_neg (by omega), scan_mk, hR]
 rw [hr]
 refine fin2_ ?_
 exact cl_
 refine at_alt ?_ ?_
 simp only [pick_rules, list_rules]
 try refine lg_mk ?_
 refine u_st ?_
 refine lg_nil ?_
 refine at_seq ?_
 simp only [pick_rules, list_rules]
 try refine lg_mk ?_
 refine u_bd ?_
 refine u_st ?_
 refine lg_nil ?_
 refine at_nil ?_
 refine h15 _ ?_; clear h15; try clear N15
 refine vc_ret ?_
 try simp only [k_rules]
 have hr : parsQ t = (s1.c, (s1.p : Int), []) := by unfold parsQ; rw [if_neg (by omega), scan_mk, hR]
 rw [hr]
 refine fin2_ ?_
 exact cl_
 exact at_end
 refine at_alt ?_ ?_
 simp only [pick_rules, list_rules]
 try refine lg_mk ?_
 refine u_st ?_
 refine lg_nil ?_
 refine at_seq ?_
 simp only [pick_rules, list_rules]
 try refine lg_mk ?_
 refine u_ld ?_
 refine u_bd ?_
 refine u_st ?_
 refine lg_nil ?_
 refine at_nil ?_
 refine h15 _ ?_; clear h15; try clear N15
 refine vc_ret ?_
 try simp only [k_rules]
 have hr : parsQ t = (s1.c, (s1.p : Int), []) := by unfold parsQ; rw [if_neg (by omega), scan_mk, hR]
 rw [hr]
 refine fin2_ ?_
 exact cl_
 exact at_end
 refine at_alt ?_ ?_
 simp only [pick_rules, list_rules]
 try refine lg_mk ?_
 refine u_st ?_
 refine lg_nil ?_
 refine at_seq ?_
 simp only [pick_rules, list_rules]
 try refine lg_mk ?_
 refine u_pt ?_
 refine u_ld ?_
 refine u_bd ?_
 refine u_st ?_
 refine lg_nil ?_
 refine at_nil ?_
 refine h15 _ ?_; clear h15; try clear N15
 refine vc_ret ?_
 try simp only [k_rules]
 have hr : parsQ t = (s1.c, (s1.p : Int), []) := by unfold parsQ; rw [if_neg (by omega), scan_mk, hR]
 rw [hr]
 refine fin2_ ?_
 exact cl_
 exact at_end
 refine at_alt ?_ ?_
 simp only [pick_rules, list_rules]
 try refine lg_mk ?_
 refine u_st ?_
 refine lg_nil ?_
 refine at_seq ?_
 simp only [pick_rules, list_rules]
 try refine lg_mk ?_
 refine u_pt ?_
 iterate 2 refine u_ld ?_
 refine u_bd ?_
 refine u_st ?_
 refine lg_nil ?_
 refine at_nil ?_
 refine h15 _ ?_; clear h15; try clear N15
 refine vc_ret ?_
 try simp only [k_rules]
 have hr : parsQ t = (s1.c, (s1.p : Int), []) := by unfold parsQ; rw [if_neg (by omega), scan_mk, hR]
 rw [hr]
 refine fin2_ ?_
 exact cl_
 exact at_end
 refine at_alt ?_ ?_
 simp only [pick_rules, list_rules]
 try refine lg_mk ?_
 refine u_st ?_
 refine lg_nil ?_
 refine at_seq ?_
 simp only [pick_rules, list_rules]
 try refine lg_mk ?_
 refine u_pt ?_
 refine u_ld ?_
 refine u_pt ?_
 refine u_ld ?_
 refine u_bd ?_
 refine u_st ?_
 refine lg_nil ?_
 refine at_nil ?_
 refine h15 _ ?_; clear h15; try clear N15
 refine vc_ret ?_
 try simp only [k_rules]
 have hr : parsQ t = (s1.c, (s1.p : Int), []) := by unfold parsQ; rw [if_neg (by omega), scan_mk, hR]
 rw [hr]
 refine fin2_ ?_
 exact cl_
 exact at_end
 ·first | omega | exact absurd trivial hb14 | contradiction | (simp_all; done)
 obtain ⟨n1, n2, n3, n4, n5⟩ := hsn rfl
 have hx := And.intro @hR hx0
 refine u_reg ?_
 try refine lg_mk ?_
 have hc := call_rule (E := (E_qryA.at_ 46)) (f := 57) (sp := Spec.gen qryA) rfl
 have hs := @qryA.eq_1
 refine u_hg (hq := by (first | (refine ⟨by decide, by decide, preP_ok (q := []) (Nat.zero_le _) (by omega) (by omega) (by omega), ?_⟩; first | rfl | (rw [hR]; rfl) | (simp only [dN_nil, Int.toNat_natCast, hR]; rfl)) | exact sd_)) ?_
 refine u_mv ?_
 iterate 2 refine u_ex ?_
 iterate 2 refine u_mv ?_
 refine lg_nil ?_
 have hx := hx0
 refine h8 _ ?_; clear h8; try clear N8
 refine vc_seq_k fun N16 h16 => ?_
 refine vc_seq_k fun N17 h17 => ?_
 refine u_reg ?_
 try refine lg_mk ?_
 iterate 2 refine u_mv ?_
 refine g_pt ?_
 refine g_ld ?_
 refine g_mv ?_
 refine g_ln ?_
 refine g_bn ?_
 refine u_pk ?_
 refine lg_nil ?_
 refine h17 _ ?_; clear h17; try clear N17
 refine u_cond (fun hb18 => ?_) (fun hb18 => ?_)
 refine u_reg ?_
 try refine lg_mk ?_
 have hc := call_rule (E := (E_qryA.at_ 46)) (f := 58) (sp := Spec.gen failG) rfl
 have hs := @failG.eq_1
 refine u_hg (hq := by exact so_) ?_
 refine u_mv (hq := by exact so_) ?_
 refine lg_nil ?_
 refine h16 _ ?_; clear h16; try clear N16
 refine vc_seq_k fun N19 h19 => ?_
 refine vc_seq_k fun N20 h20 => ?_
 refine u_reg ?_
 try refine lg_mk ?_
 refine u_mv ?_
 refine u_un ?_
 refine lg_nil ?_
 refine h20 _ ?_; clear h20; try clear N20
 refine u_cond (fun hb21 => ?_) (fun hb21 => ?_)
 refine vc_seq_k fun N22 h22 => ?_
 refine vc_regT [] (.seq [0] (.alt 1 (.alt 2 (.alt 3 (.alt 4 (.alt 5 (.seq [6, 7] .nil) (.alt 6 (.seq [5, 7] .nil) .nil)) (.alt 6 (.seq [4, 5, 7] .nil) .nil)) (.alt 6 (.seq [3, 4, 5, 7] .nil) .nil)) (.alt 3 (.alt 2 (.alt 4 (.alt 5 (.seq [6, 7] .nil) (.alt 6 (.seq [5, 7] .nil) .nil)) (.alt 6 (.seq [4, 5, 7] .nil) .nil)) (.alt 4 (.alt 2 (.alt 5 (.seq [6, 7] .nil) (.alt 6 (.seq [5, 7] .nil) .nil)) (.alt 6 (.seq [2, 5, 7] .nil) .nil)) (.alt 6 (.seq [2, 4, 5, 7] .nil) .nil))) (.alt 6 (.seq [2, 3, 4, 5, 7] .nil) .nil))) (.alt 3 (.alt 1 (.alt 2 (.alt 4 (.alt 5 (.seq [6, 7] .nil) (.alt 6 (.seq [5, 7] .nil) .nil)) (.alt 6 (.seq [4, 5, 7] .nil) .nil)) (.alt 4 (.alt 2 (.alt 5 (.seq [6, 7] .nil) (.alt 6 (.seq [5, 7] .nil) .nil)) (.alt 6 (.seq [2, 5, 7] .nil) .nil)) (.alt 6 (.seq [2, 4, 5, 7] .nil) .nil))) (.alt 4 (.alt 1 (.alt 2 (.alt 5 (.seq [6, 7] .nil) (.alt 6 (.seq [5, 7] .nil) .nil)) (.alt 6 (.seq [2, 5, 7] .nil) .nil)) (.alt 6 (.seq [1, 2, 5, 7] .nil) .nil)) (.alt 6 (.seq [1, 2, 4, 5, 7] .nil) .nil))) (.alt 6 (.seq [1, 2, 3, 4, 5, 7] .nil) .nil)))) hmix (by kernel_rfl) ?_
 refine at_seq ?_
 simp only [pick_rules, list_rules]
 try refine lg_mk ?_
 refine u_bd ?_
 refine lg_nil ?_
 refine at_alt ?_ ?_
 simp only [pick_rules, list_rules]
 try refine lg_mk ?_
 refine u_pt ?_
 refine lg_nil ?_
 refine at_alt ?_ ?_
 simp only [pick_rules, list_rules]
 try refine lg_mk ?_
 refine u_ld ?_
 refine lg_nil ?_
 refine at_alt ?_ ?_
 simp only [pick_rules, list_rules]
 try refine lg_mk ?_
 refine u_pt ?_
 refine lg_nil ?_
 refine at_alt ?_ ?_
 simp only [pick_rules, list_rules]
 try refine lg_mk ?_
 refine u_ld ?_
 refine lg_nil ?_
 refine at_alt ?_ ?_
 simp only [pick_rules, list_rules]
 try refine lg_mk ?_
 refine u_bd ?_
 refine lg_nil ?_
 refine at_seq ?_
 simp only [pick_rules, list_rules]
 try refine lg_mk ?_
 iterate 2 refine u_st ?_
 refine lg_nil ?_
 refine at_nil ?_
 refine h22 _ ?_; clear h22; try clear N22
 refine vc_ret ?_
 try simp only [k_rules]
 have hr : parsQ t = (failC s1.c 1, (s1.p : Int), []) := by unfold parsQ; rw [if_neg (by omega), scan_mk, hR]; exact if_pos (by have := hb18; (try simp at this); omega)
 rw [hr]
 refine fin2_ ?_
 exact cl_
 refine at_alt ?_ ?_
 simp only [pick_rules, list_rules]
 try refine lg_mk ?_
 refine u_st ?_
 refine lg_nil ?_
 refine at_seq ?_
 simp only [pick_rules, list_rules]
 try refine lg_mk ?_
 refine u_bd ?_
 refine u_st ?_
 refine lg_nil ?_
 refine at_nil ?_
 refine h22 _ ?_; clear h22; try clear N22
 refine vc_ret ?_
 try simp only [k_rules]
 have hr : parsQ t = (failC s1.c 1, (s1.p : Int), []) := by unfold parsQ; rw [if_neg (by omega), scan_mk, hR]; exact if_pos (by have := hb18; (try simp at this); omega)
 rw [hr]
 refine fin2_ ?_
 exact cl_
 exact at_end
 refine at_alt ?_ ?_
 simp only [pick_rules, list_rules]
 try refine lg_mk ?_
 refine u_st ?_
 refine lg_nil ?_
 refine at_seq ?_
 simp only [pick_rules, list_rules]
 try refine lg_mk ?_
 refine u_ld ?_
 refine u_bd ?_
 refine u_st ?_
 refine lg_nil ?_
 refine at_nil ?_
 refine h22 _ ?_; clear h22; try clear N22
 refine vc_ret ?_
 try simp only [k_rules]
 have hr : parsQ t = (failC s1.c 1, (s1.p : Int), []) := by unfold parsQ; rw [if_neg (by omega), scan_mk, hR]; exact if_pos (by have := hb18; (try simp at this); omega)
 rw [hr]
 refine fin2_ ?_
 exact cl_
 exact at_end
 refine at_alt ?_ ?_
 simp only [pick_rules, list_rules]
 try refine lg_mk ?_
 refine u_st ?_
 refine lg_nil ?_
 refine at_seq ?_
 simp only [pick_rules, list_rules]
 try refine lg_mk ?_
 refine u_pt ?_
 refine u_ld ?_
 refine u_bd ?_
 refine u_st ?_
 refine lg_nil ?_
 refine at_nil ?_
 refine h22 _ ?_; clear h22; try clear N22
 refine vc_ret ?_
 try simp only [k_rules]
 have hr : parsQ t = (failC s1.c 1, (s1.p : Int), []) := by unfold parsQ; rw [if_neg (by omega), scan_mk, hR]; exact if_pos (by have := hb18; (try simp at this); omega)
 rw [hr]
 refine fin2_ ?_
 exact cl_
 exact at_end
 refine at_alt ?_ ?_
 simp only [pick_rules, list_rules]
 try refine lg_mk ?_
 refine u_pt ?_
 refine lg_nil ?_
 refine at_alt ?_ ?_
 simp only [pick_rules, list_rules]
 try refine lg_mk ?_
 refine u_ld ?_
 refine lg_nil ?_
 refine at_alt ?_ ?_
 simp only [pick_rules, list_rules]
 try refine lg_mk ?_
 refine u_ld ?_
 refine lg_nil ?_
 refine at_alt ?_ ?_
 simp only [pick_rules, list_rules]
 try refine lg_mk ?_
 refine u_bd ?_
 refine lg_nil ?_
 refine at_seq ?_
 simp only [pick_rules, list_rules]
 try refine lg_mk ?_
 iterate 2 refine u_st ?_
 refine lg_nil ?_
 refine at_nil ?_
 refine h22 _ ?_; clear h22; try clear N22
 refine vc_ret ?_
 try simp only [k_rules]
 have hr : parsQ t = (failC s1.c 1, (s1.p : Int), []) := by unfold parsQ; rw [if_neg (by omega), scan_mk, hR]; exact if_pos (by have := hb18; (try simp at this); omega)
 rw [hr]
 refine fin2_ ?_
 exact cl_
 refine at_alt ?_ ?_
 simp only [pick_rules, list_rules]
 try refine lg_mk ?_
 refine u_st ?_
 refine lg_nil ?_
 refine at_seq ?_
 simp only [pick_rules, list_rules]
 try refine lg_mk ?_
 refine u_bd ?_
 refine u_st ?_
 refine lg_nil ?_
 refine at_nil ?_
 refine h22 _ ?_; clear h22; try clear N22
 refine vc_ret ?_
 try simp only [k_rules]
 have hr : parsQ t = (failC s1.c 1, (s1.p : Int), []) := by unfold parsQ; rw [if_neg (by omega), scan_mk, hR]; exact if_pos (by have := hb18; (try simp at this); omega)
 rw [hr]
 refine fin2_ ?_
 exact cl_
 exact at_end
 refine at_alt ?_ ?_
 simp only [pick_rules, list_rules]
 try refine lg_mk ?_
 refine u_st ?_
 refine lg_nil ?_
 refine at_seq ?_
 simp only [pick_rules, list_rules]
 try refine lg_mk ?_
 refine u_ld ?_
 refine u_bd ?_
 refine u_st ?_
 refine lg_nil ?_
 refine at_nil ?_
 refine h22 _ ?_; clear h22; try clear N22
 refine vc_ret ?_
 try simp only [k_rules]
 have hr : parsQ t = (failC s1.c 1, (s1.p : Int), []) := by unfold parsQ; rw [if_neg (by omega), scan_mk, hR]; exact if_pos (by have := hb18; (try simp at this); omega)
 rw [hr]
 refine fin2_ ?_
 exact cl_
 exact at_end
 refine at_alt ?_ ?_
 simp only [pick_rules, list_rules]
 try refine lg_mk ?_
 refine u_ld ?_
 refine lg_nil ?_
 refine at_alt ?_ ?_
 simp only [pick_rules, list_rules]
 try refine lg_mk ?_
 refine u_ld ?_
 refine lg_nil ?_
 refine at_alt ?_ ?_
 simp only [pick_rules, list_rules]
 try refine lg_mk ?_
 refine u_bd ?_
 refine lg_nil ?_
 refine at_seq ?_
 simp only [pick_rules, list_rules]
 try refine lg_mk ?_
 iterate 2 refine u_st ?_
 refine lg_nil ?_
 refine at_nil ?_
 refine h22 _ ?_; clear h22; try clear N22
 refine vc_ret ?_
 try simp only [k_rules]
 have hr : parsQ t = (failC s1.c 1, (s1.p : Int), []) := by unfold parsQ; rw [if_neg (by omega), scan_mk, hR]; exact if_pos (by have := hb18; (try simp at this); omega)
 rw [hr]
 refine fin2_ ?_
 exact cl_
 refine at_alt ?_ ?_
 simp only [pick_rules, list_rules]
 try refine lg_mk ?_
 refine u_st ?_
 refine lg_nil ?_
 refine at_seq ?_
 simp only [pick_rules, list_rules]
 try refine lg_mk ?_
 refine u_bd ?_
 refine u_st ?_
 refine lg_nil ?_
 refine at_nil ?_
 refine h22 _ ?_; clear h22; try clear N22
 refine vc_ret ?_
 try simp only [k_rules]
 have hr : parsQ t = (failC s1.c 1, (s1.p : Int), []) := by unfold parsQ; rw [if_neg (by omega), scan_mk, hR]; exact if_pos (by have := hb18; (try simp at this); omega)
 rw [hr]
 refine fin2_ ?_
 exact cl_
 exact at_end
 refine at_alt ?_ ?_
 simp only [pick_rules, list_rules]
 try refine lg_mk ?_
 refine u_st ?_
 refine lg_nil ?_
 refine at_seq ?_
 simp only [pick_rules, list_rules]
 try refine lg_mk ?_
 refine u_ld ?_
 refine u_bd ?_
 refine u_st ?_
 refine lg_nil ?_
 refine at_nil ?_
 refine h22 _ ?_; clear h22; try clear N22
 refine vc_ret ?_
 try simp only [k_rules]
 have hr : parsQ t = (failC s1.c 1, (s1.p : Int), []) := by unfold parsQ; rw [if_neg (by omega), scan_mk, hR]; exact if_pos (by have := hb18; (try simp at this); omega)
 rw [hr]
 refine fin2_ ?_
 exact cl_
 exact at_end
 refine at_alt ?_ ?_
 simp only [pick_rules, list_rules]
 try refine lg_mk ?_
 refine u_st ?_
 refine lg_nil ?_
 refine at_seq ?_
 simp only [pick_rules, list_rules]
 try refine lg_mk ?_
 iterate 2 refine u_ld ?_
 refine u_bd ?_
 refine u_st ?_
 refine lg_nil ?_
 refine at_nil ?_
 refine h22 _ ?_; clear h22; try clear N22
 refine vc_ret ?_
 try simp only [k_rules]
 have hr : parsQ t = (failC s1.c 1, (s1.p : Int), []) := by unfold parsQ; rw [if_neg (by omega), scan_mk, hR]; exact if_pos (by have := hb18; (try simp at this); omega)
 rw [hr]
 refine fin2_ ?_
 exact cl_
 exact at_end
 refine at_alt ?_ ?_
 simp only [pick_rules, list_rules]
 try refine lg_mk ?_
 refine u_st ?_
 refine lg_nil ?_
 refine at_seq ?_
 simp only [pick_rules, list_rules]
 try refine lg_mk ?_
 refine u_ld ?_
 refine u_pt ?_
 refine u_ld ?_
 refine u_bd ?_
 refine u_st ?_
 refine lg_nil ?_
 refine at_nil ?_
 refine h22 _ ?_; clear h22; try clear N22
 refine vc_ret ?_
 try simp only [k_rules]
 have hr : parsQ t = (failC s1.c 1, (s1.p : Int), []) := by unfold parsQ; rw [if_neg (by omega), scan_mk, hR]; exact if_pos (by have := hb18; (try simp at this); omega)
 rw [hr]
 refine fin2_ ?_
 exact cl_
 exact at_end
 refine at_alt ?_ ?_
 simp only [pick_rules, list_rules]
 try refine lg_mk ?_
 refine u_pt ?_
 refine lg_nil ?_
 refine at_alt ?_ ?_
 simp only [pick_rules, list_rules]
 try refine lg_mk ?_
 refine u_pt ?_
 refine lg_nil ?_
 refine at_alt ?_ ?_
 simp only [pick_rules, list_rules]
 try refine lg_mk ?_
 refine u_ld ?_
 refine lg_nil ?_
 refine at_alt ?_ ?_
 simp only [pick_rules, list_rules]
 try refine lg_mk ?_
 refine u_ld ?_
 refine lg_nil ?_
 refine at_alt ?_ ?_
 simp only [pick_rules, list_rules]
 try refine lg_mk ?_
 refine u_bd ?_
 refine lg_nil ?_
 refine at_seq ?_
 simp only [pick_rules, list_rules]
 try refine lg_mk ?_
 iterate 2 refine u_st ?_
 refine lg_nil ?_
 refine at_nil ?_
 refine h22 _ ?_; clear h22; try clear N22
 refine vc_ret ?_
 try simp only [k_rules]
 have hr : parsQ t = (failC s1.c 1, (s1.p : Int), []) := by unfold parsQ; rw [if_neg (by omega), scan_mk, hR]; exact if_pos (by have := hb18; (try simp at this); omega)
 rw [hr]
 refine fin2_ ?_
 exact cl_
 refine at_alt ?_ ?_
 simp only [pick_rules, list_rules]
 try refine lg_mk ?_
 refine u_st ?_
 refine lg_nil ?_
 refine at_seq ?_
 simp only [pick_rules, list_rules]
 try refine lg_mk ?_
 refine u_bd ?_
 refine u_st ?_
 refine lg_nil ?_
 refine at_nil ?_
 refine h22 _ ?_; clear h22; try clear N22
 refine vc_ret ?_
 try simp only [k_rules]
 have hr : parsQ t = (failC s1.c 1, (s1.p : Int), []) := by unfold parsQ; rw [if_neg (by omega), scan_mk, hR]; exact if_pos (by have := hb18; (try simp at this); omega)
 rw [hr]
 refine fin2_ ?_
 exact cl_
 exact at_end
 refine at_alt ?_ ?_
 simp only [pick_rules, list_rules]
 try refine lg_mk ?_
 refine u_st ?_
 refine lg_nil ?_
 refine at_seq ?_
 simp only [pick_rules, list_rules]
 try refine lg_mk ?_
 refine u_ld ?_
 refine u_bd ?_
 refine u_st ?_
 refine lg_nil ?_
 refine at_nil ?_
 refine h22 _ ?_; clear h22; try clear N22
 refine vc_ret ?_
 try simp only [k_rules]
 have hr : parsQ t = (failC s1.c 1, (s1.p : Int), []) := by unfold parsQ; rw [if_neg (by omega), scan_mk, hR]; exact if_pos (by have := hb18; (try simp at this); omega)
 rw [hr]
 refine fin2_ ?_
 exact cl_
 exact at_end
 refine at_alt ?_ ?_
 simp only [pick_rules, list_rules]
 try refine lg_mk ?_
 refine u_ld ?_
 refine lg_nil ?_
 refine at_alt ?_ ?_
 simp only [pick_rules, list_rules]
 try refine lg_mk ?_
 refine u_ld ?_
 refine lg_nil ?_
 refine at_alt ?_ ?_
 simp only [pick_rules, list_rules]
 try refine lg_mk ?_
 refine u_bd ?_
 refine lg_nil ?_
 refine at_seq ?_
 simp only [pick_rules, list_rules]
 try refine lg_mk ?_
 iterate 2 refine u_st ?_
 refine lg_nil ?_
 refine at_nil ?_
 refine h22 _ ?_; clear h22; try clear N22
 refine vc_ret ?_
 try simp only [k_rules]
 have hr : parsQ t = (failC s1.c 1, (s1.p : Int), []) := by unfold parsQ; rw [if_neg (by omega), scan_mk, hR]; exact if_pos (by have := hb18; (try simp at this); omega)
 rw [hr]
 refine fin2_ ?_
 exact cl_
 refine at_alt ?_ ?_
 simp only [pick_rules, list_rules]
 try refine lg_mk ?_
 refine u_st ?_
 refine lg_nil ?_
 refine at_seq ?_
 simp only [pick_rules, list_rules]
 try refine lg_mk ?_
 refine u_bd ?_
 refine u_st ?_
 refine lg_nil ?_
 refine at_nil ?_
 refine h22 _ ?_; clear h22; try clear N22
 refine vc_ret ?_
 try simp only [k_rules]
 have hr : parsQ t = (failC s1.c 1, (s1.p : Int), []) := by unfold parsQ; rw [if_neg (by omega), scan_mk, hR]; exact if_pos (by have := hb18; (try simp at this); omega)
 rw [hr]
 refine fin2_ ?_
 exact cl_
 exact at_end
 refine at_alt ?_ ?_
 simp only [pick_rules, list_rules]
 try refine lg_mk ?_
 refine u_st ?_
 refine lg_nil ?_
 refine at_seq ?_
 simp only [pick_rules, list_rules]
 try refine lg_mk ?_
 refine u_ld ?_
 refine u_bd ?_
 refine u_st ?_
 refine lg_nil ?_
 refine at_nil ?_
 refine h22 _ ?_; clear h22; try clear N22
 refine vc_ret ?_
 try simp only [k_rules]
 have hr : parsQ t = (failC s1.c 1, (s1.p : Int), []) := by unfold parsQ; rw [if_neg (by omega), scan_mk, hR]; exact if_pos (by have := hb18; (try simp at this); omega)
 rw [hr]
 refine fin2_ ?_
 exact cl_
 exact at_end
 refine at_alt ?_ ?_
 simp only [pick_rules, list_rules]
 try refine lg_mk ?_
 refine u_st ?_
 refine lg_nil ?_
 refine at_seq ?_
 simp only [pick_rules, list_rules]
 try refine lg_mk ?_
 iterate 2 refine u_ld ?_
 refine u_bd ?_
 refine u_st ?_
 refine lg_nil ?_
 refine at_nil ?_
 refine h22 _ ?_; clear h22; try clear N22
 refine vc_ret ?_
 try simp only [k_rules]
 have hr : parsQ t = (failC s1.c 1, (s1.p : Int), []) := by unfold parsQ; rw [if_neg (by omega), scan_mk, hR]; exact if_pos (by have := hb18; (try simp at this); omega)
 rw [hr]
 refine fin2_ ?_
 exact cl_
 exact at_end
 refine at_alt ?_ ?_
 simp only [pick_rules, list_rules]
 try refine lg_mk ?_
 refine u_ld ?_
 refine lg_nil ?_
 refine at_alt ?_ ?_
 simp only [pick_rules, list_rules]
 try refine lg_mk ?_
 refine u_pt ?_
 refine lg_nil ?_
 refine at_alt ?_ ?_
 simp only [pick_rules, list_rules]
 try refine lg_mk ?_
 refine u_ld ?_
 refine lg_nil ?_
 refine at_alt ?_ ?_
 simp only [pick_rules, list_rules]
 try refine lg_mk ?_
 refine u_bd ?_
 refine lg_nil ?_
 refine at_seq ?_
 simp only [pick_rules, list_rules]
 try refine lg_mk ?_
 iterate 2 refine u_st ?_
 refine lg_nil ?_
 refine at_nil ?_
 refine h22 _ ?_; clear h22; try clear N22
 refine vc_ret ?_
 try simp only [k_rules]
 have hr : parsQ t = (failC s1.c 1, (s1.p : Int), []) := by unfold parsQ; rw [if_neg (by omega), scan_mk, hR]; exact if_pos (by have := hb18; (try simp at this); omega)
 rw [hr]
 refine fin2_ ?_
 exact cl_
 refine at_alt ?_ ?_
 simp only [pick_rules, list_rules]
 try refine lg_mk ?_
 refine u_st ?_
 refine lg_nil ?_
 refine at_seq ?_
 simp only [pick_rules, list_rules]
 try refine lg_mk ?_
 refine u_bd ?_
 refine u_st ?_
 refine lg_nil ?_
 refine at_nil ?_
 refine h22 _ ?_; clear h22; try clear N22
 refine vc_ret ?_
 try simp only [k_rules]
 have hr : parsQ t = (failC s1.c 1, (s1.p : Int), []) := by unfold parsQ; rw [if_neg (by omega), scan_mk, hR]; exact if_pos (by have := hb18; (try simp at this); omega)
 rw [hr]
 refine fin2_ ?_
 exact cl_
 exact at_end
 refine at_alt ?_ ?_
 simp only [pick_rules, list_rules]
 try refine lg_mk ?_
 refine u_st ?_
 refine lg_nil ?_
 refine at_seq ?_
 simp only [pick_rules, list_rules]
 try refine lg_mk ?_
 refine u_ld ?_
 refine u_bd ?_
 refine u_st ?_
 refine lg_nil ?_
 refine at_nil ?_
 refine h22 _ ?_; clear h22; try clear N22
 refine vc_ret ?_
 try simp only [k_rules]
 have hr : parsQ t = (failC s1.c 1, (s1.p : Int), []) := by unfold parsQ; rw [if_neg (by omega), scan_mk, hR]; exact if_pos (by have := hb18; (try simp at this); omega)
 rw [hr]
 refine fin2_ ?_
 exact cl_
 exact at_end
 refine at_alt ?_ ?_
 simp only [pick_rules, list_rules]
 try refine lg_mk ?_
 refine u_st ?_
 refine lg_nil ?_
 refine at_seq ?_
 simp only [pick_rules, list_rules]
 try refine lg_mk ?_
 refine u_pt ?_
 refine u_ld ?_
 refine u_bd ?_
 refine u_st ?_
 refine lg_nil ?_
 refine at_nil ?_
 refine h22 _ ?_; clear h22; try clear N22
 refine vc_ret ?_
 try simp only [k_rules]
 have hr : parsQ t = (failC s1.c 1, (s1.p : Int), []) := by unfold parsQ; rw [if_neg (by omega), scan_mk, hR]; exact if_pos (by have := hb18; (try simp at this); omega)
 rw [hr]
 refine fin2_ ?_
 exact cl_
 exact at_end
 refine at_alt ?_ ?_
 simp only [pick_rules, list_rules]
 try refine lg_mk ?_
 refine u_st ?_
 refine lg_nil ?_
 refine at_seq ?_
 simp only [pick_rules, list_rules]
 try refine lg_mk ?_
 refine u_pt ?_
 iterate 2 refine u_ld ?_
 refine u_bd ?_
 refine u_st ?_
 refine lg_nil ?_
 refine at_nil ?_
 refine h22 _ ?_; clear h22; try clear N22
 refine vc_ret ?_
 try simp only [k_rules]
 have hr : parsQ t = (failC s1.c 1, (s1.p : Int), []) := by unfold parsQ; rw [if_neg (by omega), scan_mk, hR]; exact if_pos (by have := hb18; (try simp at this); omega)
 rw [hr]
 refine fin2_ ?_
 exact cl_
 exact at_end
 refine at_alt ?_ ?_
 simp only [pick_rules, list_rules]
 try refine lg_mk ?_
 refine u_st ?_
 refine lg_nil ?_
 refine at_seq ?_
 simp only [pick_rules, list_rules]
 try refine lg_mk ?_
 refine u_pt ?_
 refine u_ld ?_
 refine u_pt ?_
 refine u_ld ?_
 refine u_bd ?_
 refine u_st ?_
 refine lg_nil ?_
 refine at_nil ?_
 refine h22 _ ?_; clear h22; try clear N22
 refine vc_ret ?_
 try simp only [k_rules]
 have hr : parsQ t = (failC s1.c 1, (s1.p : Int), []) := by unfold parsQ; rw [if_neg (by omega), scan_mk, hR]; exact if_pos (by have := hb18; (try simp at this); omega)
 rw [hr]
 refine fin2_ ?_
 exact cl_
 exact at_end
 ·first | omega | exact absurd trivial hb21 | contradiction | (simp_all; done)
 refine vc_skip ?_
 try simp only [k_rules]
 refine h16 _ ?_; clear h16; try clear N16
 refine vc_seq_k fun N23 h23 => ?_
 refine vc_seq_k fun N24 h24 => ?_
 refine u_reg ?_
 try refine lg_mk ?_
 refine u_mv ?_
 refine u_un ?_
 refine lg_nil ?_
 refine h24 _ ?_; clear h24; try clear N24
 refine u_cond (fun hb25 => ?_) (fun hb25 => ?_)
 ·first | omega | exact absurd trivial hb25 | contradiction | (simp_all; done)
 refine vc_skip ?_
 try simp only [k_rules]
 refine h23 _ ?_; clear h23; try clear N23
 refine vc_seq_k fun N26 h26 => ?_
 refine vc_seq_k fun N27 h27 => ?_
 refine u_reg ?_
 try refine lg_mk ?_
 refine u_pt ?_
 refine u_ld ?_
 refine u_ln ?_
 refine u_bn ?_
 refine lg_nil ?_
 refine h27 _ ?_; clear h27; try clear N27
 refine u_cond (fun hb28 => ?_) (fun hb28 => ?_)
 refine vc_seq_k fun N29 h29 => ?_
 refine u_reg ?_
 try refine lg_mk ?_
 iterate 2 refine u_bd ?_
 iterate 2 refine u_st ?_
 refine lg_nil ?_
 refine h29 _ ?_; clear h29; try clear N29
 refine vc_ret ?_
 try simp only [k_rules]
 have hr : parsQ t = (10, -1, []) := by unfold parsQ; rw [if_neg (by omega), scan_mk, hR]; show (if _ then _ else _) = _; rw [if_neg (by have := hb18; (try simp at this); omega), if_pos (by have := hb28; omega)]
 rw [hr]
 refine fin2_ ?_
 exact cl_
 refine vc_skip ?_
 try simp only [k_rules]
 refine h26 _ ?_; clear h26; try clear N26
 refine vc_seq_k fun N30 h30 => ?_
 refine u_reg ?_
 try refine lg_mk ?_
 refine u_pt ?_
 refine u_ld ?_
 iterate 2 refine u_bd ?_
 iterate 2 refine u_st ?_
 refine lg_nil ?_
 refine h30 _ ?_; clear h30; try clear N30
 refine vc_ret ?_
 try simp only [k_rules]
 have hr : parsQ t = (0, 0, s1.ns) := by unfold parsQ; rw [if_neg (by omega), scan_mk, hR]; show (if _ then _ else _) = _; rw [if_neg (by have := hb18; (try simp at this); omega), if_neg (by have := hb28; omega)]
 rw [hr]
 refine fin2_ ?_
 exact cl_
 cases hg

def E_pars : Env Tryd.prog := E_qryA.add 29 (Spec.pure parsG) pars_meets (by kernel_rfl)
end Go.Proofs.YtlbjffdaooadoaaDoor
