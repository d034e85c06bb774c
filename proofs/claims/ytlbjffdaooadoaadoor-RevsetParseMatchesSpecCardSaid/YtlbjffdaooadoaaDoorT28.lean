/- Walks, printed by wip/gen/walk.py. -/
import Derived.Test.YtlbjffdaooadoaaDoorT27
import Derived.Test.YtlbjffdaooadoaaDoorV5
set_option linter.all false
set_option maxRecDepth 100000
set_option maxHeartbeats 4000000
namespace Go.Proofs.YtlbjffdaooadoaaDoor
open Go Go.Vc Go.RowKit
def szI (q : List Nd) (i : Nat) : Nat := szN (szl q i) (ar (q.getD i default).kd)
theorem szl_at {q : List Nd} : ∀ {n i : Nat}, i < n → (szl q n).getD i 0 = szI q i
  | n + 1, i, h => by
    by_cases hi : i < n
    · rw [szl_get hi]; exact szl_at hi
    · obtain rfl : i = n := by omega
      show (szl q i ++ [_]).getD i 0 = _
      rw [List.getD_eq_getElem?_getD, List.getElem?_append_right (by rw [szl_len]; exact Nat.le_refl _), szl_len, Nat.sub_self]; rfl
def okQ (q : List Nd) : Prop := 1 ≤ q.length ∧ q.length ≤ 40 ∧ ∀ j, j < q.length → refC q j = 0
theorem ok_of_val {q : List Nd} (h : valQ q = (0, 0)) : okQ q ∧ (rts q q.length).length = 1 := by
  unfold valQ at h
  split at h
  · cases h
  · rename_i h1
    split at h
    · rename_i h2; rw [h] at h2; exact absurd rfl h2
    · rename_i h2
      have h0 := fun j hj => firstF_zero (f := qC q) (g := iI) (n := q.length) (by omega) j hj
      refine ⟨⟨by omega, by omega, fun j hj => ?_⟩, ?_⟩
      · rw [refC_is (by omega) fun k hk => h0 k (by omega)]; exact h0 j hj
      · split at h
        · cases h
        · rename_i h3; omega
theorem mostN_le (k : Int) : mostN k ≤ 100000 := by unfold mostN; split <;> (try split) <;> (try split) <;> omega
theorem szI_le {q : List Nd} (h : okQ q) {i : Nat} (hi : i < q.length) : 1 ≤ szI q i ∧ szI q i ≤ i + 1 := by
  refine ⟨?_, ?_⟩
  · unfold szI
    rw [szN_is _ (by rcases ar_or (q.getD i default).kd with ⟨_, h⟩ | ⟨_, _, h⟩ | ⟨_, h⟩ <;> omega)]
    exact nK_pos _ _
  · have := szl_le (q := q) (i := i + 1) (by omega) (fun j hj => h.2.2 j (by omega)) i (by omega)
    rwa [szl_at (by omega)] at this
theorem ok_node {q : List Nd} (h : okQ q) {i : Nat} (hi : i < q.length) {x : Nd} (hx : q.getD i default = x) : 1 ≤ x.kd ∧ x.kd ≤ 16 ∧ 0 ≤ x.nm ∧ x.nm ≤ mostN x.kd ∧
    (ar x.kd = 0 → x.lf = 0 ∧ x.rt = 0 ∧ szI q i = 1) ∧ (ar x.kd = 1 → 1 ≤ i ∧ x.lf = ((i - 1 : Nat) : Int) ∧ x.rt = 0 ∧ szI q i = 1 + szI q (i - 1)) ∧
    (ar x.kd = 2 → szI q (i - 1) + 1 ≤ i ∧ x.lf = ((i - 1 - szI q (i - 1) : Nat) : Int) ∧ x.rt = ((i - 1 : Nat) : Int) ∧ szI q i = 1 + szI q (i - 1) + szI q (i - 1 - szI q (i - 1))) := by
  have hr := h.2.2 i hi
  have hl := szl_len q i
  have hb := ref_sz hr
  rw [hx] at hb
  have hg := szB_get hb
  rw [hl] at hg
  unfold refC at hr
  rw [hx] at hr
  split at hr
  · cases hr
  rename_i c1
  split at hr
  · cases hr
  rename_i c2
  split at hr
  · cases hr
  split at hr
  · rename_i c3 c4
    simp only [Bool.and_eq_false_iff, decide_eq_false_iff_not, not_or, Decidable.not_not] at c1 c2
    have e1 : 1 ≤ i → (szl q i).getD (i - 1) 0 = szI q (i - 1) := fun h => szl_at (by omega)
    obtain ⟨c4, c5⟩ := c4
    unfold opL at c4
    unfold opR at c5
    rw [hl] at c4 c5
    have eI : szI q i = szN (szl q i) (ar x.kd) := by unfold szI; rw [hx]
    refine ⟨c1.1, c1.2, c2.1, c2.2, fun ha => ?_, fun ha => ?_, fun ha => ?_⟩
    · rw [ha] at c4 c5 eI
      exact ⟨by simpa using c4, by simpa using c5, eI⟩
    · rw [ha] at c4 c5 eI hg
      have h1 := hg.1 (by omega)
      have e2 := e1 h1
      refine ⟨h1, ?_, by simpa using c5, ?_⟩
      · rw [c4, if_pos rfl]; omega
      · rw [eI]; show 1 + (szl q i).getD ((szl q i).length - 1) 0 = _; rw [hl, e2]
    · rw [ha] at c4 c5 eI hg
      have h1 := hg.1 (by omega)
      have h2 := hg.2 (by omega)
      have e2 := e1 h1
      rw [e2] at h2 c4
      refine ⟨by omega, ?_, ?_, ?_⟩
      · rw [c4, if_neg (by omega), if_pos rfl]; omega
      · rw [c5, if_pos rfl]; omega
      · rw [eI]
        show 1 + (szl q i).getD ((szl q i).length - 1) 0 + (szl q i).getD ((szl q i).length - (1 + (szl q i).getD ((szl q i).length - 1) 0)) 0 = _
        rw [hl, e2, szl_at (q := q) (n := i) (i := i - (1 + szI q (i - 1))) (by omega)]
        congr 2; omega
  · cases hr
theorem getD_nd {q : List Nd} {i : Nat} {x : Nd} (h : q[i]? = some x) : q.getD i default = x := by rw [List.getD_eq_getElem?_getD, h]; rfl
theorem ok_N {q : List Nd} (h : okQ q) : okN q := by
  refine ⟨h.2.1, fun n hn => ?_⟩
  obtain ⟨i, hi⟩ := List.getElem?_of_mem hn
  have hil := (List.getElem?_eq_some_iff.1 hi).1
  obtain ⟨h1, h2, h3, h4, h5, h6, h7⟩ := ok_node h hil (getD_nd hi)
  have hm := mostN_le n.kd
  refine ⟨h1, h2, h3, by omega, ?_, ?_⟩
  · rcases ar_or n.kd with ⟨_, ha⟩ | ⟨_, _, ha⟩ | ⟨_, ha⟩
    · rw [(h5 ha).1]; exact Int.le_refl _
    · rw [(h6 ha).2.1]; omega
    · rw [(h7 ha).2.1]; omega
  · rcases ar_or n.kd with ⟨_, ha⟩ | ⟨_, _, ha⟩ | ⟨_, ha⟩
    · rw [(h5 ha).2.1]; exact Int.le_refl _
    · rw [(h6 ha).2.2.1]; exact Int.le_refl _
    · rw [(h7 ha).2.2.1]; omega
theorem par_len {s : Bs} {c : Prop} [Decidable c] : (if c then [40] ++ s ++ [41] else s).length ≤ s.length + 2 := by
  split
  · simp
  · omega
theorem shQ_tot {q : List Nd} (h : okQ q) : ∀ (f i l : Nat), i < f → i < q.length → ∃ r, shQ q f i l = some r ∧ r.length ≤ 20 * szI q i
  | 0, _, _, hf, _ => by omega
  | f + 1, i, l, hf, hi => by
    have ih := shQ_tot h f
    obtain ⟨x, hx⟩ : ∃ x, q[i]? = some x := ⟨_, List.getElem?_eq_getElem hi⟩
    obtain ⟨h1, h2, h3, h4, h5, h6, h7⟩ := ok_node h hi (getD_nd hx)
    have hm := mostN_le x.kd
    have hs := szI_le h hi
    have hw := word_len x.kd
    have hg := sign_len x.kd
    have hit := itoa_len (n := x.nm) h3 (by omega)
    have hlen := h.2.1
    have key : ∃ s, shB (shQ q f) x = some s ∧ s.length + 2 ≤ 20 * szI q i := by
      unfold shB
      by_cases c1 : x.kd = 3
      · rw [if_pos c1]; exact ⟨_, rfl, by simp; omega⟩
      rw [if_neg c1]
      by_cases c2 : x.kd = 4 ∨ x.kd = 5
      · rw [if_pos c2]; exact ⟨_, rfl, by simp; omega⟩
      rw [if_neg c2]
      by_cases c3 : x.kd = 7
      · have ha : ar x.kd = 1 := by rw [c3]; rfl
        obtain ⟨g1, g2, g3, g4⟩ := h6 ha
        obtain ⟨r, r1, r2⟩ := ih (i - 1) 2 (by omega) (by omega)
        rw [if_pos c3, g2]
        exact ⟨_, by rw [Int.toNat_natCast, r1]; rfl, by simp; omega⟩
      rw [if_neg c3]
      by_cases c4 : ar x.kd = 1
      · obtain ⟨g1, g2, g3, g4⟩ := h6 c4
        obtain ⟨r, r1, r2⟩ := ih (i - 1) 0 (by omega) (by omega)
        rw [if_pos c4, g2]
        exact ⟨_, by rw [Int.toNat_natCast, r1]; rfl, by simp; omega⟩
      rw [if_neg c4]
      by_cases c5 : ar x.kd = 0
      · rw [if_pos c5]; exact ⟨_, rfl, by omega⟩
      rw [if_neg c5]
      have ha : ar x.kd = 2 := by rcases ar_or x.kd with ⟨_, h⟩ | ⟨_, _, h⟩ | ⟨_, h⟩ <;> omega
      obtain ⟨g1, g2, g3, g4⟩ := h7 ha
      obtain ⟨r, r1, r2⟩ := ih (i - 1 - szI q (i - 1)) (lvN x.kd) (by omega) (by omega)
      obtain ⟨r', r3, r4⟩ := ih (i - 1) (lvN x.kd + 1) (by omega) (by omega)
      rw [g2, g3]
      exact ⟨_, by rw [Int.toNat_natCast, Int.toNat_natCast, r1, r3]; rfl, by simp; omega⟩
    obtain ⟨s, s1, s2⟩ := key
    refine ⟨if lvN x.kd < l then [40] ++ s ++ [41] else s, ?_, ?_⟩
    · unfold shQ
      rw [hx]
      show (shB (shQ q f) x).bind _ = _
      rw [s1]
      show (if s.length ≤ 100000 then _ else _) = _
      rw [if_pos (by omega)]
    · have := par_len (s := s) (c := lvN x.kd < l)
      omega
theorem shw_all : ∀ n, Meets Tryd.prog 64 (Spec.pure (shwG n))
  | 0 => meets_voidP fun a p r h hp => by
    unfold shwG at h
    split at h
    · simp only [Option.some.injEq, Prod.mk.injEq] at h
      obtain ⟨rfl, _⟩ := h
      exact absurd hp.2.2.2.2 (by simp [shQ])
    · cases h
  | n + 1 => shw_step n (shw_all n)
def fmtQ (q : List Nd) : Int × Int × Bs :=
  if valQ q ≠ (0, 0) then ((valQ q).1, (valQ q).2, [])
  else if 300 < ((shQ q 41 (q.length - 1) 0).getD []).length then (10, -2, []) else (0, 0, (shQ q 41 (q.length - 1) 0).getD [])
def fmtG : List AV → Option (Prop × AV)
  | [.agg [.d (.sl xs)]] => some (xs = rows eN (dN xs) ∧ (dN xs).length ≤ 9223372036854775807, .tup [.d (.str (fmtQ (dN xs)).2.2), .agg [.d (.int .i64 (fmtQ (dN xs)).1), .d (.int .i64 (fmtQ (dN xs)).2.1)]])
  | _ => none
theorem pair_ne {a b : Int × Int} (h : a ≠ b) : (decide (a.1 = b.1) && decide (a.2 = b.2)) = false := by
  cases hh : (decide (a.1 = b.1) && decide (a.2 = b.2)) with
  | false => rfl
  | true => simp at hh; exact absurd (Prod.ext hh.1 hh.2) h

def E_shwA : Env Tryd.prog := E_lev.add 64 (Spec.pure (shwG 41)) (shw_all 41) (by kernel_rfl)

theorem fmt_meets : Meets Tryd.prog 31 (Spec.pure fmtG) := by
 refine meets_fun (E_shwA.at_ 24) Tryd.func31 rfl rfl rfl ?_
 intro args p r hg hp
 unfold fmtG at hg
 split at hg
 rename_i xs
 simp only [Option.some.injEq, Prod.mk.injEq] at hg
 obtain ⟨rfl, rfl⟩ := hg
 obtain ⟨he, hl⟩ := hp
 generalize dN xs = q at *
 subst he
 have hT : (E_shwA).X = T := rfl
 have hx0 := And.intro @rect_eN (And.intro @dN_rows (And.intro @dec_t (And.intro @dec_f (And.intro @getD_bs @Tryd.results31))))
 have hx := hx0
 refine ⟨by rfl, ?_⟩
 intro F W0 hnp hmk
 refine vc_seq_k fun N1 h1 => ?_
 refine u_reg ?_
 try refine lg_mk ?_
 refine u_bx ?_
 refine u_mv ?_
 refine u_al ?_
 refine lg_nil ?_
 refine h1 _ ?_; clear h1; try clear N1
 refine vc_seq_k fun N2 h2 => ?_
 refine vc_seq_k fun N3 h3 => ?_
 refine u_reg ?_
 try refine lg_mk ?_
 refine u_ld ?_
 have hc := call_rule (E := (E_shwA.at_ 24)) (f := 24) (sp := Spec.pure valG) rfl
 have hs := @valG.eq_1
 refine u_cp ?_
 refine u_al ?_
 refine u_st ?_
 refine lg_nil ?_
 refine h3 _ ?_; clear h3; try clear N3
 refine vc_seq_k fun N4 h4 => ?_
 by_cases hv : valQ q = (0, 0)
 obtain ⟨⟨h1, h40, hrf⟩, hrt⟩ := ok_of_val hv
 have hokN := ok_N (q := q) ⟨h1, h40, hrf⟩
 obtain ⟨S, hS, hSl⟩ := shQ_tot (q := q) ⟨h1, h40, hrf⟩ 41 (q.length - 1) 0 (by omega) (by omega)
 have hSz := (szI_le (q := q) ⟨h1, h40, hrf⟩ (i := q.length - 1) (by omega)).2
 have hqm : ((q.length : Int) - 1).toNat = q.length - 1 := by omega
 have hv1 : (valQ q).1 = 0 := by rw [hv]
 have hv2 : (valQ q).2 = 0 := by rw [hv]
 have hvb : (decide ((valQ q).1 = 0) && decide ((valQ q).2 = 0)) = true := by rw [hv]; rfl
 have hx := And.intro @hvb hx0
 refine u_reg ?_
 try refine lg_mk ?_
 refine u_ld ?_
 refine u_bd ?_
 refine u_bn ?_
 refine lg_nil ?_
 have hx := hx0
 refine h4 _ ?_; clear h4; try clear N4
 refine u_cond (fun hb5 => ?_) (fun hb5 => ?_)
 ·first | omega | exact absurd trivial hb5 | contradiction | (simp_all; done)
 refine vc_skip ?_
 try simp only [k_rules]
 refine h2 _ ?_; clear h2; try clear N2
 refine vc_seq_k fun N6 h6 => ?_
 have hx := And.intro @hqm (And.intro @hS hx0)
 refine u_reg ?_
 try refine lg_mk ?_
 refine u_ld ?_
 refine u_pt ?_
 refine u_ld ?_
 refine u_ln ?_
 refine u_bn ?_
 have hc := call_rule (E := (E_shwA.at_ 24)) (f := 64) (sp := Spec.pure (shwG 41)) rfl
 have hs := @shwG.eq_1
 refine u_cp (hq := by (first | ((repeat' apply And.intro) <;> first | rfl | omega | exact hokN.2 | (rw [hS]; rfl) | (simp [hS]; done)) | exact sd_)) ?_
 refine u_mv ?_
 refine lg_nil ?_
 have hx := hx0
 refine h6 _ ?_; clear h6; try clear N6
 refine vc_seq_k fun N7 h7 => ?_
 refine vc_seq_k fun N8 h8 => ?_
 refine u_reg ?_
 try refine lg_mk ?_
 refine u_mv (hq := by exact so_) ?_
 refine u_ln (hq := by exact so_) ?_
 refine u_bn (hq := by exact so_) ?_
 refine lg_nil ?_
 refine h8 _ ?_; clear h8; try clear N8
 refine u_cond (fun hb9 => ?_) (fun hb9 => ?_)
 refine vc_seq_k fun N10 h10 => ?_
 refine u_reg ?_
 try refine lg_mk ?_
 refine u_bd ?_
 refine u_mv ?_
 refine u_st ?_
 refine lg_nil ?_
 refine h10 _ ?_; clear h10; try clear N10
 refine vc_ret ?_
 try simp only [k_rules]
 have hr : fmtQ q = (10, -2, []) := by unfold fmtQ; rw [if_neg (by rw [hv]; simp), hS, if_pos (by have := hb9; (try simp at this); show 300 < S.length; omega)]
 rw [hr]
 refine fin2_ ?_
 exact cl_
 refine vc_skip ?_
 try simp only [k_rules]
 refine h7 _ ?_; clear h7; try clear N7
 refine vc_seq_k fun N11 h11 => ?_
 refine u_reg ?_
 try refine lg_mk ?_
 refine u_mv ?_
 refine u_bd ?_
 refine u_mv ?_
 refine u_st ?_
 refine lg_nil ?_
 refine h11 _ ?_; clear h11; try clear N11
 refine vc_ret ?_
 try simp only [k_rules]
 have hr : fmtQ q = (0, 0, S) := by unfold fmtQ; rw [if_neg (by rw [hv]; simp), hS, if_neg (by have := hb9; (try simp at this); show ¬300 < S.length; omega)]; rfl
 rw [hr]
 refine fin2_ ?_
 exact cl_
 have hvb : (decide ((valQ q).1 = 0) && decide ((valQ q).2 = 0)) = false := pair_ne hv
 have hx := And.intro @hvb hx0
 refine u_reg ?_
 try refine lg_mk ?_
 refine u_ld ?_
 refine u_bd ?_
 refine u_bn ?_
 refine lg_nil ?_
 have hx := hx0
 refine h4 _ ?_; clear h4; try clear N4
 refine u_cond (fun hb12 => ?_) (fun hb12 => ?_)
 refine vc_seq_k fun N13 h13 => ?_
 refine u_reg ?_
 try refine lg_mk ?_
 refine u_ld ?_
 refine u_mv ?_
 refine u_st ?_
 refine lg_nil ?_
 refine h13 _ ?_; clear h13; try clear N13
 refine vc_ret ?_
 try simp only [k_rules]
 have hr : fmtQ q = ((valQ q).1, (valQ q).2, []) := by unfold fmtQ; rw [if_pos hv]
 rw [hr]
 refine fin2_ ?_
 exact cl_
 ·first | omega | exact absurd trivial hb12 | contradiction | (simp_all; done)
 cases hg

def E_fmt : Env Tryd.prog := E_shwA.add 31 (Spec.pure fmtG) fmt_meets (by kernel_rfl)
end Go.Proofs.YtlbjffdaooadoaaDoor
