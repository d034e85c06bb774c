/- Walks, printed by wip/gen/walk.py. -/
import Derived.Test.YtmbjnkgpcbpclaaGreatT65
import Derived.Test.YtmbjnkgpcbpclaaGreatV5
set_option linter.all false
set_option maxRecDepth 100000
set_option maxHeartbeats 4000000
namespace Go.Proofs.YtmbjnkgpcbpclaaGreat
open Go Go.Vc Go.RowKit
theorem parS_len {s : Bs} {c : Prop} [Decidable c] : (if c then [40] ++ s ++ [41] else s).length ≤ s.length + 2 := by
  split
  · simp
  · omega
theorem szM_le {q : List Sn} (h : valS q = (0, 0)) {i : Nat} (hi : i < q.length) : 1 ≤ szI (mpQ q) i ∧ szI (mpQ q) i ≤ i + 1 := szI_le (ok_of_val (val_mp h).1).1 (by rw [mp_len]; exact hi)
theorem shS_tot {q : List Sn} (h : valS q = (0, 0)) : ∀ (f i l : Nat), i < f → i < q.length → ∃ r, shS q f i l = some r ∧ r.length ≤ 200 * szI (mpQ q) i
  | 0, _, _, hf, _ => by omega
  | f + 1, i, l, hf, hi => by
    have ih := shS_tot h f
    obtain ⟨x, hx⟩ : ∃ x, q[i]? = some x := ⟨_, List.getElem?_eq_getElem hi⟩
    have hxd : q.getD i default = x := by rw [List.getD_eq_getElem?_getD, hx]; rfl
    obtain ⟨h1, h2, h3, h4, h5, h6⟩ := okS_node h hi hxd
    have hs := szM_le h hi
    have hlen := (val_mp h).2.2.1
    have hel := esc_le x.tx
    have hsg := sgS_len x.kd
    have key : ∃ s, shB (shS q f) x = some s ∧ s.length + 2 ≤ 200 * szI (mpQ q) i := by
      unfold shB
      by_cases c1 : x.kd = 1
      · have := okT_len (h2 c1)
        rw [if_pos c1]; exact ⟨_, rfl, by simp; omega⟩
      rw [if_neg c1]
      by_cases c4 : x.kd = 4
      · obtain ⟨g1, g2, g3, g4⟩ := h5 c4
        obtain ⟨r, r1, r2⟩ := ih (i - 1) 2 (by omega) (by omega)
        rw [if_pos c4, g2]
        exact ⟨_, by rw [Int.toNat_natCast, r1]; rfl, by simp; omega⟩
      rw [if_neg c4]
      obtain ⟨g1, g2, g3, g4⟩ := h6 (by omega)
      obtain ⟨r, r1, r2⟩ := ih (i - 1 - szI (mpQ q) (i - 1)) (lvS x.kd) (by omega) (by omega)
      obtain ⟨r', r3, r4⟩ := ih (i - 1) (lvS x.kd + 1) (by omega) (by omega)
      rw [g2, g3]
      exact ⟨_, by rw [Int.toNat_natCast, Int.toNat_natCast, r1, r3]; rfl, by simp; omega⟩
    obtain ⟨s, s1, s2⟩ := key
    refine ⟨if lvS x.kd < l then [40] ++ s ++ [41] else s, ?_, ?_⟩
    · unfold shS
      rw [hx]
      show (shB (shS q f) x).bind _ = _
      rw [s1]
      show (if s.length ≤ 100000 then _ else _) = _
      rw [if_pos (by omega)]
    · have := parS_len (s := s) (c := lvS x.kd < l)
      omega
theorem okSh_of {q : List Sn} (h : valS q = (0, 0)) : okSh q := by
  refine ⟨(val_mp h).2.2.1, fun n hn => ?_⟩
  obtain ⟨i, hi⟩ := List.getElem?_of_mem hn
  have hil := (List.getElem?_eq_some_iff.1 hi).1
  obtain ⟨h1, h2, h3, h4, h5, h6⟩ := okS_node h hil (by rw [List.getD_eq_getElem?_getD, hi]; rfl : q.getD i default = n)
  refine ⟨h1.1, h1.2, ?_, ?_, ?_⟩
  · by_cases c1 : n.kd = 1
    · rw [(h4 c1).1]; exact Int.le_refl _
    · by_cases c4 : n.kd = 4
      · rw [(h5 c4).2.1]; omega
      · rw [(h6 (by omega)).2.1]; omega
  · by_cases c1 : n.kd = 1
    · rw [(h4 c1).2.1]; exact Int.le_refl _
    · by_cases c4 : n.kd = 4
      · rw [(h5 c4).2.2.1]; exact Int.le_refl _
      · rw [(h6 (by omega)).2.2.1]; omega
  · by_cases c1 : n.kd = 1
    · exact (okT_len (h2 c1)).2
    · rw [h3 c1]; exact Nat.zero_le _
theorem shw_all : ∀ n, Meets Tryz.prog 48 (Spec.pure (shwG n))
  | 0 => meets_voidP fun a p r h hp => by
    unfold shwG at h
    split at h
    · simp only [Option.some.injEq, Prod.mk.injEq] at h
      obtain ⟨rfl, _⟩ := h
      exact absurd hp.2.2.2.2.2 (by simp [shS])
    · cases h
  | n + 1 => shw_step n (shw_all n)
theorem pair_ne {a b : Int × Int} (h : a ≠ b) : (decide (a.1 = b.1) && decide (a.2 = b.2)) = false := by
  cases hh : (decide (a.1 = b.1) && decide (a.2 = b.2)) with
  | false => rfl
  | true => simp at hh; exact absurd (Prod.ext hh.1 hh.2) h
def fmtS (q : List Sn) : Int × Int × Bs :=
  if valS q ≠ (0, 0) then ((valS q).1, (valS q).2, [])
  else if 300 < ((shS q 41 (q.length - 1) 0).getD []).length then (10, -2, []) else (0, 0, (shS q 41 (q.length - 1) 0).getD [])
def fmtG : List AV → Option (Prop × AV)
  | [.agg [.d (.sl xs)]] => some (xs = rows eSn (dSn xs) ∧ (dSn xs).length ≤ 9223372036854775807 ∧ bigS (dSn xs), .tup [.d (.str (fmtS (dSn xs)).2.2), .agg [.d (.int .i64 (fmtS (dSn xs)).1), .d (.int .i64 (fmtS (dSn xs)).2.1)]])
  | _ => none

def E_shwA : Env Tryz.prog := E_nrp.add 48 (Spec.pure (shwG 41)) (shw_all 41) (by kernel_rfl)

theorem fmt_meets : Meets Tryz.prog 19 (Spec.pure fmtG) := by
 refine meets_fun (E_shwA.at_ 24) Tryz.func19 rfl rfl rfl ?_
 intro args p r hg hp
 unfold fmtG at hg
 split at hg
 rename_i xs
 simp only [Option.some.injEq, Prod.mk.injEq] at hg
 obtain ⟨rfl, rfl⟩ := hg
 obtain ⟨he, hl, hbg⟩ := hp
 generalize dSn xs = q at *
 subst he
 have hT : (E_shwA).X = T := rfl
 have hx0 := And.intro @rect_eSn (And.intro @dSn_rows (And.intro @dec_t (And.intro @dec_f (And.intro @getD_bs @Tryz.results19))))
 have hx := hx0
 refine ⟨by rfl, ?_⟩
 intro F W0 hnp hmk
 refine vc_seq_k fun N1 h1 => ?_
 refine u_reg ?_
 try refine lg_mk ?_
 refine u_bx ?_
 refine u_mv ?_
 refine u_al ?_
 refine lg_nil ?_
 refine h1 _ ?_; clear h1; try clear N1
 refine vc_seq_k fun N2 h2 => ?_
 refine vc_seq_k fun N3 h3 => ?_
 refine u_reg ?_
 try refine lg_mk ?_
 refine u_ld ?_
 have hc := call_rule (E := (E_shwA.at_ 24)) (f := 11) (sp := Spec.pure valG) rfl
 have hs := @valG.eq_1
 refine u_cp ?_
 refine u_al ?_
 refine u_st ?_
 refine lg_nil ?_
 refine h3 _ ?_; clear h3; try clear N3
 refine vc_seq_k fun N4 h4 => ?_
 by_cases hv : valS q = (0, 0)
 obtain ⟨_, h1, h40, _⟩ := val_mp hv
 have hokN := okSh_of hv
 obtain ⟨S, hS, hSl⟩ := shS_tot hv 41 (q.length - 1) 0 (by omega) (by omega)
 have hSz := (szM_le hv (i := q.length - 1) (by omega)).2
 have hqm : ((q.length : Int) - 1).toNat = q.length - 1 := by omega
 have hv1 : (valS q).1 = 0 := by rw [hv]
 have hv2 : (valS q).2 = 0 := by rw [hv]
 have hvb : (decide ((valS q).1 = 0) && decide ((valS q).2 = 0)) = true := by rw [hv]; rfl
 have hx := And.intro @hvb hx0
 refine u_reg ?_
 try refine lg_mk ?_
 refine u_ld ?_
 refine u_bd ?_
 refine u_bn ?_
 refine lg_nil ?_
 have hx := hx0
 refine h4 _ ?_; clear h4; try clear N4
 refine u_cond (fun hb5 => ?_) (fun hb5 => ?_)
 ·first | omega | exact absurd trivial hb5 | contradiction | (simp_all; done)
 refine vc_skip ?_
 try simp only [k_rules]
 refine h2 _ ?_; clear h2; try clear N2
 refine vc_seq_k fun N6 h6 => ?_
 have hx := And.intro @hqm (And.intro @hS hx0)
 refine u_reg ?_
 try refine lg_mk ?_
 refine u_ld ?_
 refine u_pt ?_
 refine u_ld ?_
 refine u_ln ?_
 refine u_bn ?_
 have hc := call_rule (E := (E_shwA.at_ 24)) (f := 48) (sp := Spec.pure (shwG 41)) rfl
 have hs := @shwG.eq_1
 refine u_cp (hq := by (first | ((repeat' apply And.intro) <;> first | rfl | omega | exact hokN.2 | (rw [hS]; rfl) | (simp [hS]; done)) | exact sd_)) ?_
 refine u_mv ?_
 refine lg_nil ?_
 have hx := hx0
 refine h6 _ ?_; clear h6; try clear N6
 refine vc_seq_k fun N7 h7 => ?_
 refine vc_seq_k fun N8 h8 => ?_
 refine u_reg ?_
 try refine lg_mk ?_
 refine u_mv (hq := by exact so_) ?_
 refine u_ln (hq := by exact so_) ?_
 refine u_bn (hq := by exact so_) ?_
 refine lg_nil ?_
 refine h8 _ ?_; clear h8; try clear N8
 refine u_cond (fun hb9 => ?_) (fun hb9 => ?_)
 refine vc_seq_k fun N10 h10 => ?_
 refine u_reg ?_
 try refine lg_mk ?_
 refine u_bd ?_
 refine u_mv ?_
 refine u_st ?_
 refine lg_nil ?_
 refine h10 _ ?_; clear h10; try clear N10
 refine vc_ret ?_
 try simp only [k_rules]
 have hr : fmtS q = (10, -2, []) := by unfold fmtS; rw [if_neg (by rw [hv]; simp), hS, if_pos (by have := hb9; (try simp at this); show 300 < S.length; omega)]
 rw [hr]
 refine fin2_ ?_
 exact cl_
 refine vc_skip ?_
 try simp only [k_rules]
 refine h7 _ ?_; clear h7; try clear N7
 refine vc_seq_k fun N11 h11 => ?_
 refine u_reg ?_
 try refine lg_mk ?_
 refine u_mv ?_
 refine u_bd ?_
 refine u_mv ?_
 refine u_st ?_
 refine lg_nil ?_
 refine h11 _ ?_; clear h11; try clear N11
 refine vc_ret ?_
 try simp only [k_rules]
 have hr : fmtS q = (0, 0, S) := by unfold fmtS; rw [if_neg (by rw [hv]; simp), hS, if_neg (by have := hb9; (try simp at this); show ¬300 < S.length; omega)]; rfl
 rw [hr]
 refine fin2_ ?_
 exact cl_
 have hvb : (decide ((valS q).1 = 0) && decide ((valS q).2 = 0)) = false := pair_ne hv
 have hx := And.intro @hvb hx0
 refine u_reg ?_
 try refine lg_mk ?_
 refine u_ld ?_
 refine u_bd ?_
 refine u_bn ?_
 refine lg_nil ?_
 have hx := hx0
 refine h4 _ ?_; clear h4; try clear N4
 refine u_cond (fun hb12 => ?_) (fun hb12 => ?_)
 refine vc_seq_k fun N13 h13 => ?_
 refine u_reg ?_
 try refine lg_mk ?_
 refine u_ld ?_
 refine u_mv ?_
 refine u_st ?_
 refine lg_nil ?_
 refine h13 _ ?_; clear h13; try clear N13
 refine vc_ret ?_
 try simp only [k_rules]
 have hr : fmtS q = ((valS q).1, (valS q).2, []) := by unfold fmtS; rw [if_pos hv]
 rw [hr]
 refine fin2_ ?_
 exact cl_
 ·first | omega | exact absurd trivial hb12 | contradiction | (simp_all; done)
 cases hg

def E_fmt : Env Tryz.prog := E_shwA.add 19 (Spec.pure fmtG) fmt_meets (by kernel_rfl)
end Go.Proofs.YtmbjnkgpcbpclaaGreat
