/- Walks, printed by wip/gen/walk.py. -/
import Derived.Test.YtcjipciiljjfhaaDoorT33
import Derived.Test.YtcjipciiljjfhaaDoorV5
set_option linter.all false
set_option maxRecDepth 100000
set_option maxHeartbeats 4000000
namespace Go.Proofs.YtcjipciiljjfhaaDoor
open Go Go.Vc Go.RowKit
def gidx (P : Rf → Bool) (l : List Rf) : Int := if l.any P then (l.findIdx P : Nat) else -1
theorem gidx_at {P : Rf → Bool} {l : List Rf} {i : Nat} {x : Rf} (h : l[i]? = some x) (hp : P x = true) (hn : ∀ y ∈ l.take i, P y = false) : gidx P l = i := by
  have ha : l.any P = true := List.any_eq_true.2 ⟨x, List.mem_of_getElem? h, hp⟩
  unfold gidx; rw [if_pos ha]
  congr 1
  clear ha
  induction l generalizing i with
  | nil => simp at h
  | cons a l ih =>
    cases i with
    | zero => simp only [List.getElem?_cons_zero, Option.some.injEq] at h; subst h; rw [List.findIdx_cons, hp]; rfl
    | succ i =>
      have h1 := hn a (by simp)
      rw [List.findIdx_cons, h1, ih (by simpa using h) (fun y hy => hn y (by simp [hy]))]; rfl
theorem gidx_none {P : Rf → Bool} {l : List Rf} (hn : ∀ y ∈ l, P y = false) : gidx P l = -1 := by
  unfold gidx; rw [if_neg]
  rw [List.any_eq_true]; rintro ⟨x, hx, h⟩; rw [hn x hx] at h; cases h
theorem gidx_any (P : Rf → Bool) (l : List Rf) : decide (0 ≤ gidx P l) = l.any P := by
  unfold gidx; split
  · rename_i h; rw [h]; exact decide_eq_true (by omega)
  · rename_i h; rw [Bool.not_eq_true] at h; rw [h]; exact decide_eq_false (by omega)

theorem gall_snoc {l : List Rf} {k : Nat} {x : Rf} {P : Rf → Bool} (h : ∀ y ∈ l.take k, P y = false) (hx : l[k]? = some x) (hp : P x = false) : ∀ y ∈ l.take (k + 1), P y = false := fun y hy => by
  rw [List.take_add_one, hx] at hy
  rcases List.mem_append.1 hy with hy | hy
  · exact h y hy
  · simp only [Option.toList_some, List.mem_singleton] at hy; rw [hy]; exact hp
def cnfG : List AV → Option (Prop × AV)
  | [.d (.str a), .d (.str b)] => some (a.length ≤ 1000000000 ∧ b.length ≤ 1000000000, .d (.bool (cnfB a b)))
  | _ => none
def cloG : List AV → Option (Prop × AV)
  | [.agg [.d (.str a), .d _], .d (.ptr [.str b])] => some (a.length ≤ 1000000000 ∧ b.length ≤ 1000000000, .d (.bool (cnfB a b)))
  | _ => none
def smallN (l : List Rf) : Prop := ∀ r ∈ l, r.nm.length ≤ 1000000000
def ixRG : List AV → Option (Prop × AV)
  | [.d (.sl xs), .clo (.func 37) [.d (.ptr [.str n])]] => some (xs = rows eR (dR xs) ∧ (dR xs).length ≤ 9223372036854775807 ∧ smallN (dR xs) ∧ n.length ≤ 1000000000, .d (.int .i64 (gidx (fun r => cnfB r.nm n) (dR xs))))
  | _ => none
def conRG : List AV → Option (Prop × AV)
  | [.d (.sl xs), .clo (.func 37) [.d (.ptr [.str n])]] => some (xs = rows eR (dR xs) ∧ (dR xs).length ≤ 9223372036854775807 ∧ smallN (dR xs) ∧ n.length ≤ 1000000000, .d (.bool ((dR xs).any fun r => cnfB r.nm n)))
  | _ => none
def clashG : List AV → Option (Prop × AV)
  | [.d (.sl xs), .d (.str n)] => some (xs = rows eR (dR xs) ∧ (dR xs).length ≤ 9223372036854775807 ∧ smallN (dR xs) ∧ n.length ≤ 1000000000, .d (.bool ((dR xs).any fun r => cnfB r.nm n)))
  | _ => none
def isDG : List AV → Option (Prop × AV)
  | [.d (.int .i64 n)] => some (True, .d (.bool (decide (0 ≤ n) && decide (n < 2305843009213693951))))
  | _ => none
def valRG : List AV → Option (Prop × AV)
  | [.agg [.d (.sl xs)]] => some (xs = rows eR (dR xs) ∧ (dR xs).length ≤ 9223372036854775807 ∧ smallR (dR xs), .agg [.d (.int .i64 (rfF (dR xs)).1), .d (.int .i64 (rfF (dR xs)).2)])
  | _ => none
theorem name_len {s : List UInt8} (h : nameB s = true) : s.length ≤ 60 := by
  unfold nameB at h
  rw [Bool.and_eq_true] at h
  exact of_decide_eq_true h.1
/-- What a reference comes to at place i, where those before have no fault. -/
theorem rf_cases (l : List Rf) {i : Nat} {r : Rf} (h : l[i]? = some r) : (nameB r.nm = false ∧ rfC l i = 12) ∨ (nameB r.nm = true ∧ (((r.tg < 0 ∨ 2305843009213693951 ≤ r.tg) ∧ rfC l i = 3) ∨ ((0 ≤ r.tg ∧ r.tg < 2305843009213693951) ∧
    ((0 < i ∧ (Op.bytesLess r.nm (l.getD (i - 1) default).nm || decide (r.nm = (l.getD (i - 1) default).nm)) = true ∧ rfC l i = 5) ∨ ((0 < i → (Op.bytesLess r.nm (l.getD (i - 1) default).nm || decide (r.nm = (l.getD (i - 1) default).nm)) = false) ∧
      ((((l.take i).any fun q => cnfB q.nm r.nm) = true ∧ rfC l i = 19) ∨ (((l.take i).any fun q => cnfB q.nm r.nm) = false ∧ rfC l i = 0))))))) := by
  have hd : l.getD i default = r := getD_at h
  have hu : rfC l i = if nameB r.nm = false then 12 else if r.tg < 0 ∨ 2305843009213693951 ≤ r.tg then 3
    else if 0 < i ∧ (Op.bytesLess r.nm (l.getD (i - 1) default).nm || decide (r.nm = (l.getD (i - 1) default).nm)) = true then 5
    else if ((l.take i).any fun q => cnfB q.nm r.nm) = true then 19 else 0 := by unfold rfC; rw [hd]
  cases hn : nameB r.nm with
  | false => exact .inl ⟨rfl, by rw [hu, hn]; rfl⟩
  | true =>
    refine .inr ⟨rfl, ?_⟩
    rw [hn, if_neg (by simp)] at hu
    by_cases ht : r.tg < 0 ∨ 2305843009213693951 ≤ r.tg
    · exact .inl ⟨ht, by rw [hu, if_pos ht]⟩
    · refine .inr ⟨by omega, ?_⟩
      rw [if_neg ht] at hu
      by_cases hs : 0 < i ∧ (Op.bytesLess r.nm (l.getD (i - 1) default).nm || decide (r.nm = (l.getD (i - 1) default).nm)) = true
      · exact .inl ⟨hs.1, hs.2, by rw [hu, if_pos hs]⟩
      · rw [if_neg hs] at hu
        refine .inr ⟨fun h0 => by rw [← Bool.not_eq_true]; exact fun e => hs ⟨h0, e⟩, ?_⟩
        cases hc : (l.take i).any fun q => cnfB q.nm r.nm with
        | true => exact .inl ⟨rfl, by rw [hu, hc]; rfl⟩
        | false => exact .inr ⟨rfl, by rw [hu, hc]; rfl⟩
theorem rfF_at {l : List Rf} {i : Nat} (hl : ¬ 30 < l.length) (hi : i < l.length) (h : ∀ j, j < i → rfC l j = 0) {c : Int} (hc : rfC l i = c) (h0 : c ≠ 0) : rfF l = (c, (i : Int)) := by
  unfold rfF; rw [if_neg hl, firstF_at (i := i) (by rw [hc]; exact h0) h hi, hc]; rfl
theorem rfC_name {l : List Rf} {i : Nat} {r : Rf} (h : l[i]? = some r) (hc : rfC l i = 0) : nameB r.nm = true := by
  rcases rf_cases l h with ⟨_, h2⟩ | ⟨h1, _⟩
  · rw [hc] at h2; cases h2
  · exact h1
theorem names_small {l : List Rf} {i : Nat} (h : ∀ j, j < i → rfC l j = 0) : smallN (l.take i) := fun r hr => by
  obtain ⟨j, hj⟩ := List.getElem?_of_mem hr
  rw [List.getElem?_take] at hj
  split at hj
  · rename_i hlt
    have := name_len (rfC_name hj (h j hlt)); omega
  · cases hj

theorem cnf_meets : Meets Tryd.prog 38 (Spec.pure cnfG) := by
 refine meets_fun (E_name.at_ 15) Tryd.func38 rfl rfl rfl ?_
 intro args p r hg hp
 unfold cnfG at hg
 split at hg
 ·rename_i a b
  simp only [Option.some.injEq, Prod.mk.injEq] at hg
  obtain ⟨rfl, rfl⟩ := hg
  obtain ⟨ha, hb⟩ := hp
  have hT : (E_name).X = T := rfl
  have hx0 := And.intro @dec_t (And.intro @dec_f @Tryd.results38)
  have hx := hx0
  refine ⟨by rfl, ?_⟩
  intro F W0 hnp hmk
  refine vc_seq_k fun N1 h1 => ?_
  refine u_reg ?_
  try refine lg_mk ?_
  refine u_mv ?_
  refine lg_nil ?_
  refine h1 _ ?_; clear h1; try clear N1
  refine vc_seq_k fun N2 h2 => ?_
  rcases (show preS a b = true ∨ preS a b = false by cases preS a b <;> simp) with hq | hq
  ·have hq2 : List.isPrefixOf (b ++ [47]) a = true := hq
   have hx := And.intro @hq2 hx0
   refine u_reg ?_
   try refine lg_mk ?_
   refine u_mv ?_
   refine u_mv ?_
   refine u_bn ?_
   have hc := call_rule (E := (E_name.at_ 15)) (f := 54) (sp := Spec.pure hpreG) rfl
   have hs := @hpreG.eq_1
   refine u_cp ?_
   refine u_mv ?_
   refine g_mv ?_
   refine g_mv ?_
   refine g_bn ?_
   have hc := call_rule (E := (E_name.at_ 15)) (f := 54) (sp := Spec.pure hpreG) rfl
   have hs := @hpreG.eq_1
   refine g_cp ?_
   refine u_pk ?_
   refine u_mv ?_
   refine lg_nil ?_
   have hx := hx0
   refine h2 _ ?_; clear h2; try clear N2
   refine vc_ret ?_
   try simp only [k_rules]
   have hr : cnfB a b = true := by unfold cnfB; rw [hq]; rfl
   rw [hr]
   refine fin2_ ?_
   exact cl_
  ·have hq2 : List.isPrefixOf (b ++ [47]) a = false := hq
   have hx := And.intro @hq2 hx0
   refine u_reg ?_
   try refine lg_mk ?_
   refine u_mv ?_
   refine u_mv ?_
   refine u_bn ?_
   have hc := call_rule (E := (E_name.at_ 15)) (f := 54) (sp := Spec.pure hpreG) rfl
   have hs := @hpreG.eq_1
   refine u_cp ?_
   refine u_mv ?_
   refine g_mv ?_
   refine g_mv ?_
   refine g_bn ?_
   have hc := call_rule (E := (E_name.at_ 15)) (f := 54) (sp := Spec.pure hpreG) rfl
   have hs := @hpreG.eq_1
   refine g_cp ?_
   refine u_pk ?_
   refine u_mv ?_
   refine lg_nil ?_
   have hx := hx0
   refine h2 _ ?_; clear h2; try clear N2
   refine vc_ret ?_
   try simp only [k_rules]
   have hr : cnfB a b = List.isPrefixOf (a ++ [47]) b := by unfold cnfB; rw [hq]; rfl
   rw [hr]
   refine fin2_ ?_
   exact cl_
 ·cases hg

def E_cnf : Env Tryd.prog := E_name.add 38 (Spec.pure cnfG) cnf_meets (by kernel_rfl)

theorem clo1_meets : Meets Tryd.prog 37 (Spec.pure cloG) := by
 refine meets_fun (E_cnf.at_ 8) Tryd.func37 rfl rfl rfl ?_
 intro args p r hg hp
 unfold cloG at hg
 split at hg
 ·rename_i a y b
  simp only [Option.some.injEq, Prod.mk.injEq] at hg
  obtain ⟨rfl, rfl⟩ := hg
  obtain ⟨ha, hb⟩ := hp
  have hT : (E_cnf).X = T := rfl
  have hx0 := @Tryd.results37
  have hx := hx0
  refine ⟨by rfl, ?_⟩
  intro F W0 hnp hmk
  refine vc_seq_k fun N1 h1 => ?_
  refine u_reg ?_
  try refine lg_mk ?_
  refine u_bx ?_
  refine u_mv ?_
  refine lg_nil ?_
  refine h1 _ ?_; clear h1; try clear N1
  refine vc_seq_k fun N2 h2 => ?_
  refine u_reg ?_
  try refine lg_mk ?_
  refine u_pt ?_
  refine u_ld ?_
  refine u_ld ?_
  have hc := call_rule (E := (E_cnf.at_ 8)) (f := 38) (sp := Spec.pure cnfG) rfl
  have hs := @cnfG.eq_1
  refine u_cp ?_
  refine u_mv ?_
  refine lg_nil ?_
  refine h2 _ ?_; clear h2; try clear N2
  refine vc_ret ?_
  try simp only [k_rules]
  refine fin2_ ?_
  exact cl_
 ·cases hg

def E_clo1 : Env Tryd.prog := E_cnf.add 37 (Spec.pure cloG) clo1_meets (by kernel_rfl)

theorem ixR_meets : Meets Tryd.prog 53 (Spec.pure ixRG) := by
 refine meets_fun (E_clo1.at_ 19) Tryd.func53 rfl rfl rfl ?_
 intro args p r hg hp
 unfold ixRG at hg
 split at hg
 ·rename_i xs n
  simp only [Option.some.injEq, Prod.mk.injEq] at hg
  obtain ⟨rfl, rfl⟩ := hg
  obtain ⟨he, hl, hsm, hn⟩ := hp
  generalize dR xs = l at *
  subst he
  have hT : (E_clo1).X = T := rfl
  have hx0 := And.intro @rect_eR (And.intro @dR_rows @Tryd.results53)
  have hx := hx0
  refine ⟨by rfl, ?_⟩
  intro F W0 hnp hmk
  refine vc_seq_k fun N1 h1 => ?_
  refine u_reg ?_
  try refine lg_mk ?_
  refine u_mv ?_
  refine lg_nil ?_
  refine h1 _ ?_; clear h1; try clear N1
  refine vc_seq_k fun N2 h2 => ?_
  refine vc_seq_k fun N3 h3 => ?_
  refine u_reg ?_
  try refine lg_mk ?_
  refine u_mv ?_
  refine u_ln ?_
  refine u_mv ?_
  refine lg_nil ?_
  refine h3 _ ?_; clear h3; try clear N3
  refine vc_block ?_
  refine vc_loop_mk (σ := Nat) (fun s => (fun k => k ≤ l.length ∧ ∀ y ∈ l.take k, cnfB y.nm n = false) s)
   (fun s => (fun k => [(0, .d (.sl (rows eR l))), (1, .clo (.func 37) [.d (.ptr [.str n])]), (6, .d (.sl (rows eR l))), (7, .d (.int .i64 (l.length : Nat))), (8, .d (.int .i64 (k : Nat)))]) s)
   (fun s => (fun k => []) s) (fun s => (fun k => l.length - k) s) hnp 0 ?_ [] ?_ ?_
  ·dsimp only
   simp
  ·dsimp only
   refine ⟨by rfl, ?_, ?_⟩
   ·refine fin_ ?_
    exact cl_
   ·refine fin_ ?_
    exact cl_
  ·rintro k hinv N4 h4
   dsimp only at hinv ⊢
   obtain ⟨k1, k2⟩ := hinv
   refine vc_seq_k fun N5 h5 => ?_
   refine u_reg ?_
   try refine lg_mk ?_
   refine u_bn ?_
   refine lg_nil ?_
   refine h5 _ ?_; clear h5; try clear N5
   refine vc_seq_k fun N6 h6 => ?_
   refine u_cond (fun hb7 => ?_) (fun hb7 => ?_)
   ·obtain ⟨x, hxe⟩ := getE (l := l) (i := k) (by omega)
    have hxs := hsm x (mem_at hxe)
    obtain ⟨a, y⟩ := x
    dsimp only at hxs
    refine vc_skip ?_
    try simp only [k_rules]
    refine h6 _ ?_; clear h6; try clear N6
    refine vc_seq_k fun N8 h8 => ?_
    refine vc_block ?_
    refine vc_seq_k fun N9 h9 => ?_
    refine u_reg ?_
    try refine lg_mk ?_
    refine u_mv ?_
    refine u_mv ?_
    refine lg_nil ?_
    refine h9 _ ?_; clear h9; try clear N9
    refine vc_seq_k fun N10 h10 => ?_
    have hx := And.intro @hxe (And.intro @eR.eq_1 hx0)
    refine u_reg ?_
    try refine lg_mk ?_
    refine u_mv ?_
    refine u_mv ?_
    refine u_mv ?_
    refine u_pt ?_
    refine u_ld ?_
    have hc := (rfl : ((E_clo1.at_ 19)).Γ 37 = some (Spec.pure cloG))
    have hs := (@cloG.eq_1)
    refine u_kp (hq := by (first | (first | exact ⟨hxs, hn⟩ | omega) | exact sd_)) ?_
    refine lg_nil ?_
    have hx := hx0
    refine h10 _ ?_; clear h10; try clear N10
    refine u_cond (fun hb11 => ?_) (fun hb11 => ?_)
    ·have ht := hb11
     refine vc_seq_k fun N12 h12 => ?_
     refine u_reg ?_
     try refine lg_mk ?_
     refine u_mv ?_
     refine u_mv ?_
     refine lg_nil ?_
     refine h12 _ ?_; clear h12; try clear N12
     refine vc_ret ?_
     try simp only [k_rules]
     have hr := gidx_at (P := fun r => cnfB r.nm n) hxe (by simpa using ht) k2
     rw [hr]
     refine fin2_ ?_
     exact cl_
    ·have ht := hb11
     refine vc_skip ?_
     try simp only [k_rules]
     refine h8 _ ?_; clear h8; try clear N8
     refine u_reg ?_
     try refine lg_mk ?_
     refine u_bn ?_
     refine u_mv ?_
     refine lg_nil ?_
     refine h4 _ ⟨k + 1, ?_, ?_, [], ?_⟩
     ·dsimp only
      exact ⟨by omega, gall_snoc (P := fun r => cnfB r.nm n) k2 hxe (by simpa using ht)⟩
     ·dsimp only
      omega
     ·dsimp only
      refine ⟨by rfl, ?_, ?_⟩
      ·refine fin_ ?_
       exact cl_
      ·refine fin_ ?_
       exact cl_
   ·refine vc_exit ?_
    simp only [k_rules, Nat.reduceEqDiff, reduceIte, eq_self]
    refine h2 _ ?_; clear h2; try clear N2
    refine vc_seq_k fun N13 h13 => ?_
    refine u_reg ?_
    try refine lg_mk ?_
    refine u_mv ?_
    refine lg_nil ?_
    refine h13 _ ?_; clear h13; try clear N13
    refine vc_ret ?_
    try simp only [k_rules]
    have hr := gidx_none (P := fun r => cnfB r.nm n) (l := l) (by rw [List.take_of_length_le (by omega)] at k2; exact k2)
    rw [hr]
    refine fin2_ ?_
    exact cl_
 ·cases hg

def E_ixR : Env Tryd.prog := E_clo1.add 53 (Spec.pure ixRG) ixR_meets (by kernel_rfl)

theorem conR_meets : Meets Tryd.prog 36 (Spec.pure conRG) := by
 refine meets_fun (E_ixR.at_ 9) Tryd.func36 rfl rfl rfl ?_
 intro args p r hg hp
 unfold conRG at hg
 split at hg
 ·rename_i xs n
  simp only [Option.some.injEq, Prod.mk.injEq] at hg
  obtain ⟨rfl, rfl⟩ := hg
  obtain ⟨he, hl, hsm, hn⟩ := hp
  generalize dR xs = l at *
  subst he
  have hT : (E_ixR).X = T := rfl
  have hx0 := And.intro @dR_rows @Tryd.results36
  have hx := hx0
  refine ⟨by rfl, ?_⟩
  intro F W0 hnp hmk
  refine vc_seq_k fun N1 h1 => ?_
  refine u_reg ?_
  try refine lg_mk ?_
  refine u_mv ?_
  refine lg_nil ?_
  refine h1 _ ?_; clear h1; try clear N1
  refine vc_seq_k fun N2 h2 => ?_
  refine u_reg ?_
  try refine lg_mk ?_
  refine u_mv ?_
  refine u_mv ?_
  have hc := call_rule (E := (E_ixR.at_ 9)) (f := 53) (sp := Spec.pure ixRG) rfl
  have hs := @ixRG.eq_1
  refine u_cp (hq := by (first | (exact ⟨hl, hsm, hn⟩) | exact sd_)) ?_
  refine u_bn ?_
  refine u_mv ?_
  refine lg_nil ?_
  refine h2 _ ?_; clear h2; try clear N2
  refine vc_ret ?_
  try simp only [k_rules]
  rw [← gidx_any]
  refine fin2_ ?_
  exact cl_
 ·cases hg

def E_conR : Env Tryd.prog := E_ixR.add 36 (Spec.pure conRG) conR_meets (by kernel_rfl)

theorem clash_meets : Meets Tryd.prog 22 (Spec.pure clashG) := by
 refine meets_fun (E_conR.at_ 8) Tryd.func22 rfl rfl rfl ?_
 intro args p r hg hp
 unfold clashG at hg
 split at hg
 ·rename_i xs n
  simp only [Option.some.injEq, Prod.mk.injEq] at hg
  obtain ⟨rfl, rfl⟩ := hg
  obtain ⟨he, hl, hsm, hn⟩ := hp
  generalize dR xs = l at *
  subst he
  have hT : (E_conR).X = T := rfl
  have hx0 := And.intro @dR_rows @Tryd.results22
  have hx := hx0
  refine ⟨by rfl, ?_⟩
  intro F W0 hnp hmk
  refine vc_seq_k fun N1 h1 => ?_
  refine u_reg ?_
  try refine lg_mk ?_
  refine u_bx ?_
  refine u_mv ?_
  refine lg_nil ?_
  refine h1 _ ?_; clear h1; try clear N1
  refine vc_seq_k fun N2 h2 => ?_
  refine u_reg ?_
  try refine lg_mk ?_
  refine u_mv ?_
  refine u_mf ?_
  have hc := call_rule (E := (E_conR.at_ 8)) (f := 36) (sp := Spec.pure conRG) rfl
  have hs := @conRG.eq_1
  refine u_cp (hq := by (first | (exact ⟨hl, hsm, hn⟩) | exact sd_)) ?_
  refine u_mv ?_
  refine lg_nil ?_
  refine h2 _ ?_; clear h2; try clear N2
  refine vc_ret ?_
  try simp only [k_rules]
  refine fin2_ ?_
  exact cl_
 ·cases hg

def E_clash : Env Tryd.prog := E_conR.add 22 (Spec.pure clashG) clash_meets (by kernel_rfl)

theorem isD_meets : Meets Tryd.prog 21 (Spec.pure isDG) := by
 refine meets_fun (E_clash.at_ 9) Tryd.func21 rfl rfl rfl ?_
 intro args p r hg hp
 unfold isDG at hg
 split at hg
 ·rename_i n
  simp only [Option.some.injEq, Prod.mk.injEq] at hg
  obtain ⟨rfl, rfl⟩ := hg
  have hT : (E_clash).X = T := rfl
  have hx0 := And.intro @dec_t (And.intro @dec_f @Tryd.results21)
  have hx := hx0
  refine ⟨by rfl, ?_⟩
  intro F W0 hnp hmk
  refine vc_seq_k fun N1 h1 => ?_
  refine u_reg ?_
  try refine lg_mk ?_
  refine u_mv ?_
  refine lg_nil ?_
  refine h1 _ ?_; clear h1; try clear N1
  refine vc_seq_k fun N2 h2 => ?_
  rcases (show 0 ≤ n ∨ ¬ 0 ≤ n by omega) with hz | hz
  ·have hz1 : decide ((0 : Int) ≤ n) = true := decide_eq_true hz
   have hx := And.intro @hz1 hx0
   refine u_reg ?_
   try refine lg_mk ?_
   refine u_mv ?_
   refine u_bn ?_
   refine u_mv ?_
   refine g_mv ?_
   refine g_bn ?_
   refine u_pk ?_
   refine u_mv ?_
   refine lg_nil ?_
   have hx := hx0
   refine h2 _ ?_; clear h2; try clear N2
   refine vc_ret ?_
   try simp only [k_rules]
   refine fin2_ ?_
   (repeat' apply And.intro) <;> (first | (first | rfl | trivial | (simp [hz1]; done) | (left; simp [hz1]; done)) | exact cl_)
  ·have hz1 : decide ((0 : Int) ≤ n) = false := decide_eq_false hz
   have hx := And.intro @hz1 hx0
   refine u_reg ?_
   try refine lg_mk ?_
   refine u_mv ?_
   refine u_bn ?_
   refine u_mv ?_
   refine g_mv ?_
   refine g_bn ?_
   refine u_pk ?_
   refine u_mv ?_
   refine lg_nil ?_
   have hx := hx0
   refine h2 _ ?_; clear h2; try clear N2
   refine vc_ret ?_
   try simp only [k_rules]
   refine fin2_ ?_
   (repeat' apply And.intro) <;> (first | (first | rfl | trivial | (simp [hz1]; done) | (left; simp [hz1]; done)) | exact cl_)
 ·cases hg

def E_isD : Env Tryd.prog := E_clash.add 21 (Spec.pure isDG) isD_meets (by kernel_rfl)
end Go.Proofs.YtcjipciiljjfhaaDoor
