/- Walks, printed by wip/gen/walk.py. -/
import Derived.Test.YtcjipciiljjfhaaDoorT30
import Derived.Test.YtcjipciiljjfhaaDoorV5
set_option linter.all false
set_option maxRecDepth 100000
set_option maxHeartbeats 4000000
namespace Go.Proofs.YtcjipciiljjfhaaDoor
open Go Go.Vc Go.RowKit
def compG : List AV → Option (Prop × AV)
  | [.d (.str s)] => some (s.length ≤ 60, .d (.bool (cpOk s)))
  | _ => none
theorem trim_lit (x : List UInt8) : decide (Lib.trimS x [97,98,99,100,101,102,103,104,105,106,107,108,109,110,111,112,113,114,115,116,117,118,119,120,121,122,48,49,50,51,52,53,54,55,56,57,45,95,46] = []) = x.all okB := trim_ok x
theorem cp_cases (s : List UInt8) : (s = [] ∧ cpOk s = false) ∨ (∃ a t, s = a :: t ∧ ((a = 46 ∧ cpOk s = false) ∨ (a ≠ 46 ∧
    ((lockS.isSuffixOf s = true ∧ cpOk s = false) ∨ (lockS.isSuffixOf s = false ∧ ((dots s = true ∧ cpOk s = false) ∨ (dots s = false ∧ cpOk s = s.all okB))))))) := by
  cases s with
  | nil => exact .inl ⟨rfl, rfl⟩
  | cons a t =>
    refine .inr ⟨a, t, rfl, ?_⟩
    by_cases ha : a = 46
    · exact .inl ⟨ha, by unfold cpOk; simp [ha]⟩
    · refine .inr ⟨ha, ?_⟩
      cases hl : lockS.isSuffixOf (a :: t) with
      | true => exact .inl ⟨rfl, by unfold cpOk; rw [hl]; simp⟩
      | false =>
        refine .inr ⟨rfl, ?_⟩
        cases hd : dots (a :: t) with
        | true => exact .inl ⟨rfl, by unfold cpOk; rw [hd]; simp⟩
        | false => exact .inr ⟨rfl, by unfold cpOk; rw [hl, hd]; simp [ha]⟩

theorem comp_meets : Meets Tryd.prog 35 (Spec.pure compG) := by
 refine meets_fun (E_cfn.at_ 26) Tryd.func35 rfl rfl rfl ?_
 intro args p r hg hp
 unfold compG at hg
 split at hg
 ·rename_i s
  simp only [Option.some.injEq, Prod.mk.injEq] at hg
  obtain ⟨rfl, rfl⟩ := hg
  have hs60 := hp
  have hT : (E_cfn).X = T := rfl
  have hx0 := And.intro @dec_t (And.intro @dec_f (And.intro @trim_lit @Tryd.results35))
  have hx := hx0
  refine ⟨by rfl, ?_⟩
  intro F W0 hnp hmk
  refine vc_seq_k fun N1 h1 => ?_
  refine u_reg ?_
  try refine lg_mk ?_
  refine u_mv ?_
  refine lg_nil ?_
  refine h1 _ ?_; clear h1; try clear N1
  refine vc_seq_k fun N2 h2 => ?_
  refine vc_seq_k fun N3 h3 => ?_
  rcases cp_cases s with ⟨rfl, hr⟩ | ⟨a, t, rfl, ⟨rfl, hr⟩ | ⟨ha, ⟨hl, hr⟩ | ⟨hl, ⟨hd, hr⟩ | ⟨hd, hr⟩⟩⟩⟩
  ·have q0 : decide (([] : List UInt8) = []) = true := rfl
   have q1 : True := trivial
   have q2 := q1
   have q3 := q1
   have q4 := q1
   have hx := And.intro @q0 (And.intro @q1 (And.intro @q2 (And.intro @q3 (And.intro @q4 hx0))))
   refine u_reg ?_
   try refine lg_mk ?_
   refine u_mv ?_
   refine u_bn ?_
   refine u_mv ?_
   refine g_mv ?_
   refine g_pt ?_
   refine g_bn ?_
   refine u_pk ?_
   refine u_mv ?_
   refine g_mv ?_
   have hc := call_rule (E := (E_cfn.at_ 26)) (f := 48) (sp := Spec.pure hsufG) rfl
   have hs := @hsufG.eq_1
   refine g_cp ?_
   refine u_pk ?_
   refine u_mv ?_
   refine g_mv ?_
   have hc := call_rule (E := (E_cfn.at_ 26)) (f := 49) (sp := Spec.pure contG) rfl
   have hs := @contG.eq_1
   refine g_cp ?_
   refine u_pk ?_
   refine lg_nil ?_
   have hx := hx0
   refine h3 _ ?_; clear h3; try clear N3
   refine u_cond (fun hb4 => ?_) (fun hb4 => ?_)
   ·refine vc_seq_k fun N5 h5 => ?_
    refine u_reg ?_
    try refine lg_mk ?_
    refine u_mv ?_
    refine lg_nil ?_
    refine h5 _ ?_; clear h5; try clear N5
    refine vc_ret ?_
    try simp only [k_rules]
    rw [hr]
    refine fin2_ ?_
    exact cl_
   ·first | omega | exact absurd trivial hb4 | contradiction | (simp_all; done)
  ·have hst : t.length ≤ 59 := by simp at hs60; omega
   have q0 : decide ((46 : UInt8) :: t = []) = false := decide_eq_false (by simp)
   have q1 : ((46 : UInt8) :: t)[0]? = some 46 := rfl
   have q2 : True := trivial
   have q3 := q2
   have q4 := q2
   have hx := And.intro @q0 (And.intro @q1 (And.intro @q2 (And.intro @q3 (And.intro @q4 hx0))))
   refine u_reg ?_
   try refine lg_mk ?_
   refine u_mv ?_
   refine u_bn ?_
   refine u_mv ?_
   refine g_mv ?_
   refine g_pt ?_
   refine g_bn ?_
   refine u_pk ?_
   refine u_mv ?_
   refine g_mv ?_
   have hc := call_rule (E := (E_cfn.at_ 26)) (f := 48) (sp := Spec.pure hsufG) rfl
   have hs := @hsufG.eq_1
   refine g_cp ?_
   refine u_pk ?_
   refine u_mv ?_
   refine g_mv ?_
   have hc := call_rule (E := (E_cfn.at_ 26)) (f := 49) (sp := Spec.pure contG) rfl
   have hs := @contG.eq_1
   refine g_cp ?_
   refine u_pk ?_
   refine lg_nil ?_
   have hx := hx0
   refine h3 _ ?_; clear h3; try clear N3
   refine u_cond (fun hb6 => ?_) (fun hb6 => ?_)
   ·refine vc_seq_k fun N7 h7 => ?_
    refine u_reg ?_
    try refine lg_mk ?_
    refine u_mv ?_
    refine lg_nil ?_
    refine h7 _ ?_; clear h7; try clear N7
    refine vc_ret ?_
    try simp only [k_rules]
    rw [hr]
    refine fin2_ ?_
    exact cl_
   ·first | omega | exact absurd trivial hb6 | contradiction | (simp_all; done)
  ·have hst : t.length ≤ 59 := by simp at hs60; omega
   have q0 : decide (a :: t = []) = false := decide_eq_false (by simp)
   have q1 : (a :: t)[0]? = some a := rfl
   have q2 : decide ((a.toNat : Int) = 46) = false := decide_eq_false (fun e => ha (UInt8.toNat_inj.1 (by show a.toNat = 46; omega)))
   have q3 : List.isSuffixOf [46, 108, 111, 99, 107] (a :: t) = true := hl
   have q4 := q3
   have hx := And.intro @q0 (And.intro @q1 (And.intro @q2 (And.intro @q3 (And.intro @q4 hx0))))
   refine u_reg ?_
   try refine lg_mk ?_
   refine u_mv ?_
   refine u_bn ?_
   refine u_mv ?_
   refine g_mv ?_
   refine g_pt ?_
   refine g_bn ?_
   refine u_pk ?_
   refine u_mv ?_
   refine g_mv ?_
   have hc := call_rule (E := (E_cfn.at_ 26)) (f := 48) (sp := Spec.pure hsufG) rfl
   have hs := @hsufG.eq_1
   refine g_cp ?_
   refine u_pk ?_
   refine u_mv ?_
   refine g_mv ?_
   have hc := call_rule (E := (E_cfn.at_ 26)) (f := 49) (sp := Spec.pure contG) rfl
   have hs := @contG.eq_1
   refine g_cp ?_
   refine u_pk ?_
   refine lg_nil ?_
   have hx := hx0
   refine h3 _ ?_; clear h3; try clear N3
   refine u_cond (fun hb8 => ?_) (fun hb8 => ?_)
   ·refine vc_seq_k fun N9 h9 => ?_
    refine u_reg ?_
    try refine lg_mk ?_
    refine u_mv ?_
    refine lg_nil ?_
    refine h9 _ ?_; clear h9; try clear N9
    refine vc_ret ?_
    try simp only [k_rules]
    rw [hr]
    refine fin2_ ?_
    exact cl_
   ·first | omega | exact absurd trivial hb8 | contradiction | (simp_all; done)
  ·have hst : t.length ≤ 59 := by simp at hs60; omega
   have q0 : decide (a :: t = []) = false := decide_eq_false (by simp)
   have q1 : (a :: t)[0]? = some a := rfl
   have q2 : decide ((a.toNat : Int) = 46) = false := decide_eq_false (fun e => ha (UInt8.toNat_inj.1 (by show a.toNat = 46; omega)))
   have q3 : List.isSuffixOf [46, 108, 111, 99, 107] (a :: t) = false := hl
   have q4 : Lib.contains (a :: t) [46, 46] = true := by rw [dots_contains]; exact hd
   have hx := And.intro @q0 (And.intro @q1 (And.intro @q2 (And.intro @q3 (And.intro @q4 hx0))))
   refine u_reg ?_
   try refine lg_mk ?_
   refine u_mv ?_
   refine u_bn ?_
   refine u_mv ?_
   refine g_mv ?_
   refine g_pt ?_
   refine g_bn ?_
   refine u_pk ?_
   refine u_mv ?_
   refine g_mv ?_
   have hc := call_rule (E := (E_cfn.at_ 26)) (f := 48) (sp := Spec.pure hsufG) rfl
   have hs := @hsufG.eq_1
   refine g_cp ?_
   refine u_pk ?_
   refine u_mv ?_
   refine g_mv ?_
   have hc := call_rule (E := (E_cfn.at_ 26)) (f := 49) (sp := Spec.pure contG) rfl
   have hs := @contG.eq_1
   refine g_cp ?_
   refine u_pk ?_
   refine lg_nil ?_
   have hx := hx0
   refine h3 _ ?_; clear h3; try clear N3
   refine u_cond (fun hb10 => ?_) (fun hb10 => ?_)
   ·refine vc_seq_k fun N11 h11 => ?_
    refine u_reg ?_
    try refine lg_mk ?_
    refine u_mv ?_
    refine lg_nil ?_
    refine h11 _ ?_; clear h11; try clear N11
    refine vc_ret ?_
    try simp only [k_rules]
    rw [hr]
    refine fin2_ ?_
    exact cl_
   ·first | omega | exact absurd trivial hb10 | contradiction | (simp_all; done)
  ·have hst : t.length ≤ 59 := by simp at hs60; omega
   have q0 : decide (a :: t = []) = false := decide_eq_false (by simp)
   have q1 : (a :: t)[0]? = some a := rfl
   have q2 : decide ((a.toNat : Int) = 46) = false := decide_eq_false (fun e => ha (UInt8.toNat_inj.1 (by show a.toNat = 46; omega)))
   have q3 : List.isSuffixOf [46, 108, 111, 99, 107] (a :: t) = false := hl
   have q4 : Lib.contains (a :: t) [46, 46] = false := by rw [dots_contains]; exact hd
   have hx := And.intro @q0 (And.intro @q1 (And.intro @q2 (And.intro @q3 (And.intro @q4 hx0))))
   refine u_reg ?_
   try refine lg_mk ?_
   refine u_mv ?_
   refine u_bn ?_
   refine u_mv ?_
   refine g_mv ?_
   refine g_pt ?_
   refine g_bn ?_
   refine u_pk ?_
   refine u_mv ?_
   refine g_mv ?_
   have hc := call_rule (E := (E_cfn.at_ 26)) (f := 48) (sp := Spec.pure hsufG) rfl
   have hs := @hsufG.eq_1
   refine g_cp ?_
   refine u_pk ?_
   refine u_mv ?_
   refine g_mv ?_
   have hc := call_rule (E := (E_cfn.at_ 26)) (f := 49) (sp := Spec.pure contG) rfl
   have hs := @contG.eq_1
   refine g_cp ?_
   refine u_pk ?_
   refine lg_nil ?_
   have hx := hx0
   refine h3 _ ?_; clear h3; try clear N3
   refine u_cond (fun hb12 => ?_) (fun hb12 => ?_)
   ·first | omega | exact absurd trivial hb12 | contradiction | (simp_all; done)
   ·refine vc_skip ?_
    try simp only [k_rules]
    refine h2 _ ?_; clear h2; try clear N2
    refine vc_seq_k fun N13 h13 => ?_
    rcases (show (a :: t).all okB = true ∨ (a :: t).all okB = false by cases (a :: t).all okB <;> simp) with ho | ho
    ·have hx := And.intro @ho hx0
     refine u_reg ?_
     try refine lg_mk ?_
     refine u_mv ?_
     have hc := call_rule (E := (E_cfn.at_ 26)) (f := 50) (sp := Spec.pure trimG) rfl
     have hs := @trimG.eq_1
     refine u_cp (hq := by (first | (exact ⟨by simp at hs60 ⊢; omega, rfl⟩) | exact sd_)) ?_
     refine u_bn ?_
     refine u_mv ?_
     refine g_mv ?_
     have hc := call_rule (E := (E_cfn.at_ 26)) (f := 51) (sp := Spec.pure cfnG) rfl
     have hs := @cfnG.eq_1
     refine g_cp ?_
     refine g_un ?_
     refine u_pk ?_
     refine u_mv ?_
     refine lg_nil ?_
     have hx := hx0
     refine h13 _ ?_; clear h13; try clear N13
     refine vc_ret ?_
     try simp only [k_rules]
     rw [hr, ho]
     refine fin2_ ?_
     exact cl_
    ·have hx := And.intro @ho hx0
     refine u_reg ?_
     try refine lg_mk ?_
     refine u_mv ?_
     have hc := call_rule (E := (E_cfn.at_ 26)) (f := 50) (sp := Spec.pure trimG) rfl
     have hs := @trimG.eq_1
     refine u_cp (hq := by (first | (exact ⟨by simp at hs60 ⊢; omega, rfl⟩) | exact sd_)) ?_
     refine u_bn ?_
     refine u_mv ?_
     refine g_mv ?_
     have hc := call_rule (E := (E_cfn.at_ 26)) (f := 51) (sp := Spec.pure cfnG) rfl
     have hs := @cfnG.eq_1
     refine g_cp ?_
     refine g_un ?_
     refine u_pk ?_
     refine u_mv ?_
     refine lg_nil ?_
     have hx := hx0
     refine h13 _ ?_; clear h13; try clear N13
     refine vc_ret ?_
     try simp only [k_rules]
     rw [hr, ho]
     refine fin2_ ?_
     exact cl_
 ·cases hg

def E_comp : Env Tryd.prog := E_cfn.add 35 (Spec.pure compG) comp_meets (by kernel_rfl)
end Go.Proofs.YtcjipciiljjfhaaDoor
