/- Walks, printed by wip/gen/walk.py. -/
import Derived.Test.YtaoifpmifpmhmaaT7
import Derived.Test.YtaoifpmifpmhmaaV4
set_option linter.all false
set_option maxRecDepth 100000
set_option maxHeartbeats 4000000
namespace Go.Proofs.Ytaoifpmifpmhmaa
open Go Go.Vc Go.RowKit
def fidx (P : Int → Bool) (l : List Int) : Int := if l.any P then (l.findIdx P : Nat) else -1
theorem fidx_at {P : Int → Bool} {l : List Int} {i : Nat} {x : Int} (h : l[i]? = some x) (hp : P x = true) (hn : ∀ y ∈ l.take i, P y = false) : fidx P l = i := by
  have ha : l.any P = true := List.any_eq_true.2 ⟨x, List.mem_of_getElem? h, hp⟩
  unfold fidx; rw [if_pos ha]
  congr 1
  clear ha
  induction l generalizing i with
  | nil => simp at h
  | cons a l ih =>
    cases i with
    | zero => simp only [List.getElem?_cons_zero, Option.some.injEq] at h; subst h; rw [List.findIdx_cons, hp]; rfl
    | succ i =>
      have h1 := hn a (by simp)
      rw [List.findIdx_cons, h1, ih (by simpa using h) (fun y hy => hn y (by simp [hy]))]; rfl
theorem fidx_none {P : Int → Bool} {l : List Int} (hn : ∀ y ∈ l, P y = false) : fidx P l = -1 := by
  unfold fidx; rw [if_neg]
  rw [List.any_eq_true]; rintro ⟨x, hx, h⟩; rw [hn x hx] at h; cases h
theorem fidx_any (P : Int → Bool) (l : List Int) : decide (0 ≤ fidx P l) = l.any P := by
  unfold fidx; split
  · rename_i h; rw [h]; exact decide_eq_true (by omega)
  · rename_i h; rw [Bool.not_eq_true] at h; rw [h]; exact decide_eq_false (by omega)
def outB (ns : List Int) (p : Int) : Bool := !decide (p ∈ ns)
def lackB (part : List Bool) (p : Int) : Bool := !(part.getD p.toNat false)
def bdCloG : List AV → Option (Prop × AV)
  | [.d (.int .i64 p), .d (.ptr [.sl ns])] => some (ns = rows eI (dI ns) ∧ (dI ns).length ≤ 1000000000, .d (.bool (outB (dI ns) p)))
  | _ => none
def gapCloG : List AV → Option (Prop × AV)
  | [.d (.int .i64 p), .d (.ptr [.sl bs])] => some (bs = rows eB (dB bs) ∧ 0 ≤ p ∧ p < (dB bs).length, .d (.bool (lackB (dB bs) p)))
  | _ => none
def ixFuncG : List AV → Option (Prop × AV)
  | [.d (.sl xs), .clo (.func 47) [.d (.ptr [.sl ns])]] => some (xs = rows eI (dI xs) ∧ (dI xs).length ≤ 1000000000 ∧ ns = rows eI (dI ns) ∧ (dI ns).length ≤ 1000000000, .d (.int .i64 (fidx (outB (dI ns)) (dI xs))))
  | [.d (.sl xs), .clo (.func 59) [.d (.ptr [.sl bs])]] => some (xs = rows eI (dI xs) ∧ (dI xs).length ≤ 1000000000 ∧ bs = rows eB (dB bs) ∧ InR (dB bs).length (dI xs), .d (.int .i64 (fidx (lackB (dB bs)) (dI xs))))
  | _ => none
def conFuncG : List AV → Option (Prop × AV)
  | [.d (.sl xs), .clo (.func 47) [.d (.ptr [.sl ns])]] => some (xs = rows eI (dI xs) ∧ (dI xs).length ≤ 1000000000 ∧ ns = rows eI (dI ns) ∧ (dI ns).length ≤ 1000000000, .d (.bool ((dI xs).any (outB (dI ns)))))
  | [.d (.sl xs), .clo (.func 59) [.d (.ptr [.sl bs])]] => some (xs = rows eI (dI xs) ∧ (dI xs).length ≤ 1000000000 ∧ bs = rows eB (dB bs) ∧ InR (dB bs).length (dI xs), .d (.bool ((dI xs).any (lackB (dB bs)))))
  | _ => none
theorem all_false_snoc {l : List Int} {k : Nat} {x : Int} {P : Int → Bool} (h : ∀ y ∈ l.take k, P y = false) (hx : l[k]? = some x) (hp : P x = false) : ∀ y ∈ l.take (k + 1), P y = false := all_snoc h hx hp

theorem bdClo_meets : Meets Try.prog 47 (Spec.pure bdCloG) := by
 refine meets_fun (E_deepen.at_ 8) Try.func47 rfl rfl rfl ?_
 intro args p r hg hp
 unfold bdCloG at hg
 split at hg
 ·rename_i p ns
  simp only [Option.some.injEq, Prod.mk.injEq] at hg
  obtain ⟨rfl, rfl⟩ := hg
  obtain ⟨he, hl⟩ := hp
  generalize dI ns = l at *
  subst he
  have hT : (E_deepen).X = T := rfl
  have hx0 := And.intro @dI_rows (And.intro @outB.eq_1 @Try.results47)
  have hx := hx0
  refine ⟨by rfl, ?_⟩
  intro F W0 hnp hmk
  refine vc_seq_k fun N1 h1 => ?_
  refine u_reg ?_
  try refine lg_mk ?_
  refine u_mv ?_
  refine lg_nil ?_
  refine h1 _ ?_; clear h1; try clear N1
  refine vc_seq_k fun N2 h2 => ?_
  refine u_reg ?_
  try refine lg_mk ?_
  refine u_ld ?_
  refine u_mv ?_
  have hc := call_rule (E := (E_deepen.at_ 8)) (f := 48) (sp := Spec.pure containsG) rfl
  have hs := @containsG.eq_1
  refine u_cp ?_
  refine u_un ?_
  refine u_mv ?_
  refine lg_nil ?_
  refine h2 _ ?_; clear h2; try clear N2
  refine vc_ret ?_
  try simp only [k_rules]
  refine fin2_ ?_
  exact cl_
 ·cases hg

def E_bdClo : Env Try.prog := E_deepen.add 47 (Spec.pure bdCloG) bdClo_meets (by kernel_rfl)

theorem gapClo_meets : Meets Try.prog 59 (Spec.pure gapCloG) := by
 refine meets_fun (E_bdClo.at_ 9) Try.func59 rfl rfl rfl ?_
 intro args p r hg hp
 unfold gapCloG at hg
 split at hg
 ·rename_i p bs
  simp only [Option.some.injEq, Prod.mk.injEq] at hg
  obtain ⟨rfl, rfl⟩ := hg
  obtain ⟨he, h0, h1⟩ := hp
  generalize dB bs = l at *
  subst he
  obtain ⟨b, hbe⟩ := getE (l := l) (i := p.toNat) (by omega)
  have hgd : l.getD p.toNat false = b := getD_of hbe
  have hT : (E_bdClo).X = T := rfl
  have hx0 := And.intro @dB_rows (And.intro @lackB.eq_1 @Try.results59)
  have hx := hx0
  refine ⟨by rfl, ?_⟩
  intro F W0 hnp hmk
  refine vc_seq_k fun N1 h1 => ?_
  refine u_reg ?_
  try refine lg_mk ?_
  refine u_mv ?_
  refine lg_nil ?_
  refine h1 _ ?_; clear h1; try clear N1
  refine vc_seq_k fun N2 h2 => ?_
  have hx := And.intro @hbe (And.intro @eB.eq_1 hx0)
  refine u_reg ?_
  try refine lg_mk ?_
  refine u_ld ?_
  refine u_mv ?_
  refine u_pt ?_
  refine u_ld ?_
  refine u_un ?_
  refine u_mv ?_
  refine lg_nil ?_
  have hx := hx0
  refine h2 _ ?_; clear h2; try clear N2
  refine vc_ret ?_
  try simp only [k_rules]
  rw [show lackB l p = !b by unfold lackB; rw [hgd]]
  refine fin2_ ?_
  exact cl_
 ·cases hg

def E_gapClo : Env Try.prog := E_bdClo.add 59 (Spec.pure gapCloG) gapClo_meets (by kernel_rfl)

theorem ixFunc_meets : Meets Try.prog 55 (Spec.pure ixFuncG) := by
 refine meets_fun (E_gapClo.at_ 19) Try.func55 rfl rfl rfl ?_
 intro args p r hg hp
 unfold ixFuncG at hg
 split at hg
 ·rename_i xs ns
  simp only [Option.some.injEq, Prod.mk.injEq] at hg
  obtain ⟨rfl, rfl⟩ := hg
  obtain ⟨he, hl, hf, hm⟩ := hp
  generalize dI xs = l at *
  generalize dI ns = ns at *
  subst he hf
  have hT : (E_gapClo).X = T := rfl
  have hx0 := @Try.results55
  have hx := hx0
  refine ⟨by rfl, ?_⟩
  intro F W0 hnp hmk
  refine vc_seq_k fun N1 h1 => ?_
  refine u_reg ?_
  try refine lg_mk ?_
  refine u_mv ?_
  refine lg_nil ?_
  refine h1 _ ?_; clear h1; try clear N1
  refine vc_seq_k fun N2 h2 => ?_
  refine vc_seq_k fun N3 h3 => ?_
  refine u_reg ?_
  try refine lg_mk ?_
  refine u_mv ?_
  refine u_ln ?_
  refine u_mv ?_
  refine lg_nil ?_
  refine h3 _ ?_; clear h3; try clear N3
  refine vc_block ?_
  refine vc_loop_mk (σ := Nat) (fun s => (fun k => k ≤ l.length ∧ ∀ y ∈ l.take k, outB ns y = false) s)
   (fun s => (fun k => [(0, .d (.sl (rows eI l))), (1, .clo (.func 47) [.d (.ptr [.sl (rows eI ns)])]), (6, .d (.sl (rows eI l))), (7, .d (.int .i64 (l.length : Nat))), (8, .d (.int .i64 (k : Nat)))]) s)
   (fun s => (fun k => []) s) (fun s => (fun k => l.length - k) s) hnp 0 ?_ [] ?_ ?_
  ·dsimp only
   simp
  ·dsimp only
   refine ⟨by rfl, ?_, ?_⟩
   ·refine fin_ ?_
    exact cl_
   ·refine fin_ ?_
    exact cl_
  ·rintro k hinv N4 h4
   dsimp only at hinv ⊢
   obtain ⟨k1, k2⟩ := hinv
   refine vc_seq_k fun N5 h5 => ?_
   refine u_reg ?_
   try refine lg_mk ?_
   refine u_bn ?_
   refine lg_nil ?_
   refine h5 _ ?_; clear h5; try clear N5
   refine vc_seq_k fun N6 h6 => ?_
   refine u_cond (fun hb7 => ?_) (fun hb7 => ?_)
   ·obtain ⟨x, hxe⟩ := getE (l := l) (i := k) (by omega)
    refine vc_skip ?_
    try simp only [k_rules]
    refine h6 _ ?_; clear h6; try clear N6
    refine vc_seq_k fun N8 h8 => ?_
    refine vc_block ?_
    refine vc_seq_k fun N9 h9 => ?_
    refine u_reg ?_
    try refine lg_mk ?_
    refine u_mv ?_
    refine u_mv ?_
    refine lg_nil ?_
    refine h9 _ ?_; clear h9; try clear N9
    refine vc_seq_k fun N10 h10 => ?_
    have hx := And.intro @hxe (And.intro @eI.eq_1 hx0)
    refine u_reg ?_
    try refine lg_mk ?_
    refine u_mv ?_
    refine u_mv ?_
    refine u_mv ?_
    refine u_pt ?_
    refine u_ld ?_
    have hc := (rfl : ((E_gapClo.at_ 19)).Γ 47 = some (Spec.pure bdCloG))
    have hs := (@bdCloG.eq_1)
    refine u_kp (hq := by (first | (rw [dI_rows]; exact ⟨rfl, hm⟩) | (first | trivial | omega | assumption | (unfold inI64; omega) | ((repeat' apply And.intro) <;> first | rfl | trivial | omega | assumption | (unfold inI64; omega)) | (simp; done) | (simp; omega)))) ?_
    refine lg_nil ?_
    have hx := hx0
    refine h10 _ ?_; clear h10; try clear N10
    refine u_cond (fun hb11 => ?_) (fun hb11 => ?_)
    ·have ht := hb11
     simp only [dI_rows, dB_rows] at ht
     refine vc_seq_k fun N12 h12 => ?_
     refine u_reg ?_
     try refine lg_mk ?_
     refine u_mv ?_
     refine u_mv ?_
     refine lg_nil ?_
     refine h12 _ ?_; clear h12; try clear N12
     refine vc_ret ?_
     try simp only [k_rules]
     rw [fidx_at hxe ht k2]
     refine fin2_ ?_
     exact cl_
    ·have ht := hb11
     simp only [dI_rows, dB_rows] at ht
     refine vc_skip ?_
     try simp only [k_rules]
     refine h8 _ ?_; clear h8; try clear N8
     refine u_reg ?_
     try refine lg_mk ?_
     refine u_bn ?_
     refine u_mv ?_
     refine lg_nil ?_
     refine h4 _ ⟨k + 1, ?_, ?_, [], ?_⟩
     ·dsimp only
      exact ⟨by omega, all_false_snoc k2 hxe ht⟩
     ·dsimp only
      omega
     ·dsimp only
      refine ⟨by rfl, ?_, ?_⟩
      ·refine fin_ ?_
       exact cl_
      ·refine fin_ ?_
       exact cl_
   ·refine vc_exit ?_
    simp only [k_rules, Nat.reduceEqDiff, reduceIte, eq_self]
    refine h2 _ ?_; clear h2; try clear N2
    refine vc_seq_k fun N13 h13 => ?_
    refine u_reg ?_
    try refine lg_mk ?_
    refine u_mv ?_
    refine lg_nil ?_
    refine h13 _ ?_; clear h13; try clear N13
    refine vc_ret ?_
    try simp only [k_rules]
    rw [fidx_none (by rw [List.take_of_length_le (by omega)] at k2; exact k2)]
    refine fin2_ ?_
    exact cl_
 ·rename_i xs bs
  simp only [Option.some.injEq, Prod.mk.injEq] at hg
  obtain ⟨rfl, rfl⟩ := hg
  obtain ⟨he, hl, hf, hm⟩ := hp
  generalize dI xs = l at *
  generalize dB bs = bs at *
  subst he hf
  have hT : (E_gapClo).X = T := rfl
  have hx0 := @Try.results55
  have hx := hx0
  refine ⟨by rfl, ?_⟩
  intro F W0 hnp hmk
  refine vc_seq_k fun N1 h1 => ?_
  refine u_reg ?_
  try refine lg_mk ?_
  refine u_mv ?_
  refine lg_nil ?_
  refine h1 _ ?_; clear h1; try clear N1
  refine vc_seq_k fun N2 h2 => ?_
  refine vc_seq_k fun N3 h3 => ?_
  refine u_reg ?_
  try refine lg_mk ?_
  refine u_mv ?_
  refine u_ln ?_
  refine u_mv ?_
  refine lg_nil ?_
  refine h3 _ ?_; clear h3; try clear N3
  refine vc_block ?_
  refine vc_loop_mk (σ := Nat) (fun s => (fun k => k ≤ l.length ∧ ∀ y ∈ l.take k, lackB bs y = false) s)
   (fun s => (fun k => [(0, .d (.sl (rows eI l))), (1, .clo (.func 59) [.d (.ptr [.sl (rows eB bs)])]), (6, .d (.sl (rows eI l))), (7, .d (.int .i64 (l.length : Nat))), (8, .d (.int .i64 (k : Nat)))]) s)
   (fun s => (fun k => []) s) (fun s => (fun k => l.length - k) s) hnp 0 ?_ [] ?_ ?_
  ·dsimp only
   simp
  ·dsimp only
   refine ⟨by rfl, ?_, ?_⟩
   ·refine fin_ ?_
    exact cl_
   ·refine fin_ ?_
    exact cl_
  ·rintro k hinv N4 h4
   dsimp only at hinv ⊢
   obtain ⟨k1, k2⟩ := hinv
   refine vc_seq_k fun N5 h5 => ?_
   refine u_reg ?_
   try refine lg_mk ?_
   refine u_bn ?_
   refine lg_nil ?_
   refine h5 _ ?_; clear h5; try clear N5
   refine vc_seq_k fun N6 h6 => ?_
   refine u_cond (fun hb7 => ?_) (fun hb7 => ?_)
   ·obtain ⟨x, hxe⟩ := getE (l := l) (i := k) (by omega)
    have hxr := hm.at hxe
    refine vc_skip ?_
    try simp only [k_rules]
    refine h6 _ ?_; clear h6; try clear N6
    refine vc_seq_k fun N8 h8 => ?_
    refine vc_block ?_
    refine vc_seq_k fun N9 h9 => ?_
    refine u_reg ?_
    try refine lg_mk ?_
    refine u_mv ?_
    refine u_mv ?_
    refine lg_nil ?_
    refine h9 _ ?_; clear h9; try clear N9
    refine vc_seq_k fun N10 h10 => ?_
    have hx := And.intro @hxe (And.intro @eI.eq_1 hx0)
    refine u_reg ?_
    try refine lg_mk ?_
    refine u_mv ?_
    refine u_mv ?_
    refine u_mv ?_
    refine u_pt ?_
    refine u_ld ?_
    have hc := (rfl : ((E_gapClo.at_ 19)).Γ 59 = some (Spec.pure gapCloG))
    have hs := (@gapCloG.eq_1)
    refine u_kp (hq := by (first | (rw [dB_rows]; exact ⟨rfl, hxr.1, hxr.2⟩) | (first | trivial | omega | assumption | (unfold inI64; omega) | ((repeat' apply And.intro) <;> first | rfl | trivial | omega | assumption | (unfold inI64; omega)) | (simp; done) | (simp; omega)))) ?_
    refine lg_nil ?_
    have hx := hx0
    refine h10 _ ?_; clear h10; try clear N10
    refine u_cond (fun hb11 => ?_) (fun hb11 => ?_)
    ·have ht := hb11
     simp only [dI_rows, dB_rows] at ht
     refine vc_seq_k fun N12 h12 => ?_
     refine u_reg ?_
     try refine lg_mk ?_
     refine u_mv ?_
     refine u_mv ?_
     refine lg_nil ?_
     refine h12 _ ?_; clear h12; try clear N12
     refine vc_ret ?_
     try simp only [k_rules]
     rw [fidx_at hxe ht k2]
     refine fin2_ ?_
     exact cl_
    ·have ht := hb11
     simp only [dI_rows, dB_rows] at ht
     refine vc_skip ?_
     try simp only [k_rules]
     refine h8 _ ?_; clear h8; try clear N8
     refine u_reg ?_
     try refine lg_mk ?_
     refine u_bn ?_
     refine u_mv ?_
     refine lg_nil ?_
     refine h4 _ ⟨k + 1, ?_, ?_, [], ?_⟩
     ·dsimp only
      exact ⟨by omega, all_false_snoc k2 hxe ht⟩
     ·dsimp only
      omega
     ·dsimp only
      refine ⟨by rfl, ?_, ?_⟩
      ·refine fin_ ?_
       exact cl_
      ·refine fin_ ?_
       exact cl_
   ·refine vc_exit ?_
    simp only [k_rules, Nat.reduceEqDiff, reduceIte, eq_self]
    refine h2 _ ?_; clear h2; try clear N2
    refine vc_seq_k fun N13 h13 => ?_
    refine u_reg ?_
    try refine lg_mk ?_
    refine u_mv ?_
    refine lg_nil ?_
    refine h13 _ ?_; clear h13; try clear N13
    refine vc_ret ?_
    try simp only [k_rules]
    rw [fidx_none (by rw [List.take_of_length_le (by omega)] at k2; exact k2)]
    refine fin2_ ?_
    exact cl_
 ·cases hg

def E_ixFunc : Env Try.prog := E_gapClo.add 55 (Spec.pure ixFuncG) ixFunc_meets (by kernel_rfl)

theorem conFunc_meets : Meets Try.prog 46 (Spec.pure conFuncG) := by
 refine meets_fun (E_ixFunc.at_ 9) Try.func46 rfl rfl rfl ?_
 intro args p r hg hp
 unfold conFuncG at hg
 split at hg
 ·rename_i xs ns
  simp only [Option.some.injEq, Prod.mk.injEq] at hg
  obtain ⟨rfl, rfl⟩ := hg
  obtain ⟨he, hl, hf, hm⟩ := hp
  generalize dI xs = l at *
  generalize dI ns = ns at *
  subst he hf
  have hT : (E_ixFunc).X = T := rfl
  have hx0 := @Try.results46
  have hx := hx0
  refine ⟨by rfl, ?_⟩
  intro F W0 hnp hmk
  refine vc_seq_k fun N1 h1 => ?_
  refine u_reg ?_
  try refine lg_mk ?_
  refine u_mv ?_
  refine lg_nil ?_
  refine h1 _ ?_; clear h1; try clear N1
  refine vc_seq_k fun N2 h2 => ?_
  have hx := And.intro @dI_rows (And.intro @dB_rows hx0)
  refine u_reg ?_
  try refine lg_mk ?_
  refine u_mv ?_
  refine u_mv ?_
  have hc := call_rule (E := (E_ixFunc.at_ 9)) (f := 55) (sp := Spec.pure ixFuncG) rfl
  have hs := And.intro @ixFuncG.eq_1 @ixFuncG.eq_2
  refine u_cp ?_
  refine u_bn ?_
  refine u_mv ?_
  refine lg_nil ?_
  have hx := hx0
  refine h2 _ ?_; clear h2; try clear N2
  refine vc_ret ?_
  try simp only [k_rules]
  rw [← fidx_any]
  refine fin2_ ?_
  exact cl_
 ·rename_i xs bs
  simp only [Option.some.injEq, Prod.mk.injEq] at hg
  obtain ⟨rfl, rfl⟩ := hg
  obtain ⟨he, hl, hf, hm⟩ := hp
  generalize dI xs = l at *
  generalize dB bs = bs at *
  subst he hf
  have hT : (E_ixFunc).X = T := rfl
  have hx0 := @Try.results46
  have hx := hx0
  refine ⟨by rfl, ?_⟩
  intro F W0 hnp hmk
  refine vc_seq_k fun N1 h1 => ?_
  refine u_reg ?_
  try refine lg_mk ?_
  refine u_mv ?_
  refine lg_nil ?_
  refine h1 _ ?_; clear h1; try clear N1
  refine vc_seq_k fun N2 h2 => ?_
  have hx := And.intro @dI_rows (And.intro @dB_rows hx0)
  refine u_reg ?_
  try refine lg_mk ?_
  refine u_mv ?_
  refine u_mv ?_
  have hc := call_rule (E := (E_ixFunc.at_ 9)) (f := 55) (sp := Spec.pure ixFuncG) rfl
  have hs := And.intro @ixFuncG.eq_1 @ixFuncG.eq_2
  refine u_cp ?_
  refine u_bn ?_
  refine u_mv ?_
  refine lg_nil ?_
  have hx := hx0
  refine h2 _ ?_; clear h2; try clear N2
  refine vc_ret ?_
  try simp only [k_rules]
  rw [← fidx_any]
  refine fin2_ ?_
  exact cl_
 ·cases hg

def E_conFunc : Env Try.prog := E_ixFunc.add 46 (Spec.pure conFuncG) conFunc_meets (by kernel_rfl)
end Go.Proofs.Ytaoifpmifpmhmaa
