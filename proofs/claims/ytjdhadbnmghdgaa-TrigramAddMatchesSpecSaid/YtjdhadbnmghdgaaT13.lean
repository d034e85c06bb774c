/- Walks, printed by wip/gen/walk.py. -/
import Derived.Test.YtjdhadbnmghdgaaT12
import Derived.Test.YtjdhadbnmghdgaaV5
set_option linter.all false
set_option maxRecDepth 100000
set_option maxHeartbeats 4000000
namespace Go.Proofs.Ytjdhadbnmghdgaa
open Go Go.Vc Go.RowKit
def idxsG : List AV → Option (Prop × AV)
  | [.agg [.d (.sl a), .d (.sl p)], .agg [.d (.sl b), .d (.sl q)]] => some (a = rows eI (dI a) ∧ b = rows eI (dI b) ∧ (dI a).length ≤ 9223372036854775807 ∧ (dI b).length ≤ 9223372036854775807 ∧ p = rows eP (dP p) ∧ q = rows eP (dP q) ∧ (dP p).length ≤ 9223372036854775807 ∧ (dP q).length ≤ 9223372036854775807 ∧ smallP (dP p) ∧ smallP (dP q),
      .d (.bool (decide (dI a = dI b ∧ dP p = dP q))))
  | _ => none

theorem idxs_meets : Meets Try.prog 12 (Spec.pure idxsG) := by
 refine meets_fun (E_txfR.at_ 57) Try.func12 rfl rfl rfl ?_
 intro args p r hg hp
 unfold idxsG at hg
 split at hg
 ·rename_i a p b q
  simp only [Option.some.injEq, Prod.mk.injEq] at hg
  obtain ⟨rfl, rfl⟩ := hg
  obtain ⟨he1, he2, hl1, hl2, he3, he4, hl3, hl4, hs1, hs2⟩ := hp
  generalize dI a = l at *
  generalize dI b = m at *
  generalize dP p = P at *
  generalize dP q = Q at *
  subst he1 he2 he3 he4
  have hT : (E_txfR).X = T := rfl
  have hx0 := And.intro @rect_eP (And.intro @eP_eq (And.intro @dI_rows (And.intro @Bool.not_true (And.intro @Bool.not_false (And.intro @dec_t (And.intro @dec_f @Try.results12))))))
  have hx := hx0
  refine ⟨by rfl, ?_⟩
  intro F W0 hnp hmk
  refine vc_seq_k fun N1 h1 => ?_
  refine u_reg ?_
  try refine lg_mk ?_
  refine u_bx ?_
  refine u_bx ?_
  refine u_mv ?_
  refine lg_nil ?_
  refine h1 _ ?_; clear h1; try clear N1
  refine vc_seq_k fun N2 h2 => ?_
  refine vc_seq_k fun N3 h3 => ?_
  by_cases hab : l = m
  ·have hab' : decide (l = m) = true := decide_eq_true hab
   have hx := And.intro @hab' hx0
   refine u_reg ?_
   try refine lg_mk ?_
   refine u_pt ?_
   refine u_ld ?_
   refine u_pt ?_
   refine u_ld ?_
   have hc := call_rule (E := (E_txfR.at_ 57)) (f := 19) (sp := Spec.pure intsG) rfl
   have hs := @intsG.eq_1
   refine u_cp ?_
   refine u_un ?_
   refine u_mv ?_
   refine g_pt ?_
   refine g_ld ?_
   refine g_ln ?_
   refine g_pt ?_
   refine g_ld ?_
   refine g_ln ?_
   refine g_bn ?_
   refine u_pk ?_
   refine lg_nil ?_
   have hx := hx0
   refine h3 _ ?_; clear h3; try clear N3
   refine u_cond (fun hb4 => ?_) (fun hb4 => ?_)
   ·refine vc_seq_k fun N5 h5 => ?_
    refine u_reg ?_
    try refine lg_mk ?_
    refine u_mv ?_
    refine lg_nil ?_
    refine h5 _ ?_; clear h5; try clear N5
    refine vc_ret ?_
    try simp only [k_rules]
    have hr : decide (l = m ∧ P = Q) = false := decide_eq_false (fun h => by have h2 := congrArg List.length h.2; have := hb4; omega)
    rw [hr]
    refine fin2_ ?_
    exact cl_
   ·refine vc_skip ?_
    try simp only [k_rules]
    refine h2 _ ?_; clear h2; try clear N2
    refine vc_seq_k fun N6 h6 => ?_
    refine vc_seq_k fun N7 h7 => ?_
    refine u_reg ?_
    try refine lg_mk ?_
    refine u_mv ?_
    refine lg_nil ?_
    refine h7 _ ?_; clear h7; try clear N7
    refine vc_block ?_
    refine vc_loop_mk (σ := Nat) (fun s => (fun i => P.length = Q.length ∧ i ≤ P.length ∧ P.take i = Q.take i) s)
     (fun s => (fun i => [(2, .ptr 0 0 0), (3, .ptr 1 0 0), (5, .d (.int .i64 (i : Nat)))]) s)
     (fun s => (fun i => [some (.one 27 [.d (.sl (rows eI l)), .d (.sl (rows eP P))]), some (.one 27 [.d (.sl (rows eI m)), .d (.sl (rows eP Q))])]) s) (fun s => (fun i => P.length - i) s) hnp 0 ?_ [some 0, some 1] ?_ ?_
    ·dsimp only
     exact ⟨by have := hb4; omega, by omega, rfl⟩
    ·dsimp only
     refine ⟨by rfl, ?_, ?_⟩
     ·refine fin_ ?_
      exact cl_
     ·refine fin_ ?_
      exact cl_
    ·rintro i hinv N8 h8
     dsimp only at hinv ⊢
     obtain ⟨i1, i2, i3⟩ := hinv
     refine vc_seq_k fun N9 h9 => ?_
     refine vc_seq_k fun N10 h10 => ?_
     refine u_reg ?_
     try refine lg_mk ?_
     refine u_mv ?_
     refine u_pt ?_
     refine u_ld ?_
     refine u_ln ?_
     refine u_bn ?_
     refine lg_nil ?_
     refine h10 _ ?_; clear h10; try clear N10
     refine u_cond (fun hb11 => ?_) (fun hb11 => ?_)
     ·obtain ⟨⟨g, t⟩, hpe⟩ := getE (l := P) (i := i) (by omega)
      obtain ⟨⟨h, u⟩, hqe⟩ := getE (l := Q) (i := i) (by omega)
      have hs3 := hs1 _ (mem_at hpe)
      have hs4 := hs2 _ (mem_at hqe)
      have hs5 : t.length ≤ 9223372036854775807 := hs3.2
      have hs6 : u.length ≤ 9223372036854775807 := hs4.2
      refine vc_skip ?_
      try simp only [k_rules]
      refine h9 _ ?_; clear h9; try clear N9
      refine vc_seq_k fun N12 h12 => ?_
      refine vc_block ?_
      refine vc_seq_k fun N13 h13 => ?_
      by_cases hgh : g = h
      ·have hgg : decide (g = h) = true := decide_eq_true hgh
       have hx := And.intro @hpe (And.intro @hqe (And.intro @hgg hx0))
       refine u_reg ?_
       try refine lg_mk ?_
       refine u_pt ?_
       refine u_ld ?_
       refine u_mv ?_
       refine u_pt ?_
       refine u_pt ?_
       refine u_ld ?_
       refine u_pt ?_
       refine u_ld ?_
       refine u_mv ?_
       refine u_pt ?_
       refine u_pt ?_
       refine u_ld ?_
       refine u_bn ?_
       refine u_mv ?_
       refine g_pt ?_
       refine g_ld ?_
       refine g_mv ?_
       refine g_pt ?_
       refine g_pt ?_
       refine g_ld ?_
       refine g_pt ?_
       refine g_ld ?_
       refine g_mv ?_
       refine g_pt ?_
       refine g_pt ?_
       refine g_ld ?_
       have hc := call_rule (E := (E_txfR.at_ 57)) (f := 19) (sp := Spec.pure intsG) rfl
       have hs := @intsG.eq_1
       refine g_cp ?_
       refine g_un ?_
       refine u_pk ?_
       refine lg_nil ?_
       have hx := hx0
       refine h13 _ ?_; clear h13; try clear N13
       refine u_cond (fun hb14 => ?_) (fun hb14 => ?_)
       ·refine vc_seq_k fun N15 h15 => ?_
        refine u_reg ?_
        try refine lg_mk ?_
        refine u_mv ?_
        refine lg_nil ?_
        refine h15 _ ?_; clear h15; try clear N15
        refine vc_ret ?_
        try simp only [k_rules]
        have hr : decide (l = m ∧ P = Q) = false := decide_eq_false (fun h => ne_at hpe hqe (fun e => by have := hb14; exact absurd (Prod.mk.inj e).2 (by simpa using this)) h.2)
        rw [hr]
        refine fin2_ ?_
        exact cl_
       ·refine vc_skip ?_
        try simp only [k_rules]
        refine h12 _ ?_; clear h12; try clear N12
        refine u_reg ?_
        try refine lg_mk ?_
        refine u_mv ?_
        refine u_bn ?_
        refine u_mv ?_
        refine lg_nil ?_
        refine h8 _ ⟨i + 1, ?_, ?_, [some 0, some 1], ?_⟩
        ·dsimp only
         exact ⟨i1, by omega, by have htu : t = u := by { have := hb14; simpa using this }; subst hgh; subst htu; exact take_at hpe hqe i3⟩
        ·dsimp only
         omega
        ·dsimp only
         refine ⟨by rfl, ?_, ?_⟩
         ·refine fin_ ?_
          exact cl_
         ·refine fin_ ?_
          exact cl_
      ·have hgg : decide (g = h) = false := decide_eq_false hgh
       have hx := And.intro @hpe (And.intro @hqe (And.intro @hgg hx0))
       refine u_reg ?_
       try refine lg_mk ?_
       refine u_pt ?_
       refine u_ld ?_
       refine u_mv ?_
       refine u_pt ?_
       refine u_pt ?_
       refine u_ld ?_
       refine u_pt ?_
       refine u_ld ?_
       refine u_mv ?_
       refine u_pt ?_
       refine u_pt ?_
       refine u_ld ?_
       refine u_bn ?_
       refine u_mv ?_
       refine g_pt ?_
       refine g_ld ?_
       refine g_mv ?_
       refine g_pt ?_
       refine g_pt ?_
       refine g_ld ?_
       refine g_pt ?_
       refine g_ld ?_
       refine g_mv ?_
       refine g_pt ?_
       refine g_pt ?_
       refine g_ld ?_
       have hc := call_rule (E := (E_txfR.at_ 57)) (f := 19) (sp := Spec.pure intsG) rfl
       have hs := @intsG.eq_1
       refine g_cp ?_
       refine g_un ?_
       refine u_pk ?_
       refine lg_nil ?_
       have hx := hx0
       refine h13 _ ?_; clear h13; try clear N13
       refine u_cond (fun hb16 => ?_) (fun hb16 => ?_)
       ·refine vc_seq_k fun N17 h17 => ?_
        refine u_reg ?_
        try refine lg_mk ?_
        refine u_mv ?_
        refine lg_nil ?_
        refine h17 _ ?_; clear h17; try clear N17
        refine vc_ret ?_
        try simp only [k_rules]
        have hr : decide (l = m ∧ P = Q) = false := decide_eq_false (fun h => ne_at hpe hqe (fun e => hgh (Prod.mk.inj e).1) h.2)
        rw [hr]
        refine fin2_ ?_
        exact cl_
       ·first | omega | exact absurd trivial hb16 | contradiction | (simp_all; done)
     ·refine vc_exit ?_
      simp only [k_rules, Nat.reduceEqDiff, reduceIte, eq_self]
      refine h6 _ ?_; clear h6; try clear N6
      refine vc_seq_k fun N18 h18 => ?_
      refine u_reg ?_
      try refine lg_mk ?_
      refine u_mv ?_
      refine lg_nil ?_
      refine h18 _ ?_; clear h18; try clear N18
      refine vc_ret ?_
      try simp only [k_rules]
      have hr : decide (l = m ∧ P = Q) = true := decide_eq_true ⟨hab, by rw [List.take_of_length_le (by omega), List.take_of_length_le (by omega)] at i3; exact i3⟩
      rw [hr]
      refine fin2_ ?_
      exact cl_
  ·have hab' : decide (l = m) = false := decide_eq_false hab
   have hx := And.intro @hab' hx0
   refine u_reg ?_
   try refine lg_mk ?_
   refine u_pt ?_
   refine u_ld ?_
   refine u_pt ?_
   refine u_ld ?_
   have hc := call_rule (E := (E_txfR.at_ 57)) (f := 19) (sp := Spec.pure intsG) rfl
   have hs := @intsG.eq_1
   refine u_cp ?_
   refine u_un ?_
   refine u_mv ?_
   refine g_pt ?_
   refine g_ld ?_
   refine g_ln ?_
   refine g_pt ?_
   refine g_ld ?_
   refine g_ln ?_
   refine g_bn ?_
   refine u_pk ?_
   refine lg_nil ?_
   have hx := hx0
   refine h3 _ ?_; clear h3; try clear N3
   refine u_cond (fun hb19 => ?_) (fun hb19 => ?_)
   ·refine vc_seq_k fun N20 h20 => ?_
    refine u_reg ?_
    try refine lg_mk ?_
    refine u_mv ?_
    refine lg_nil ?_
    refine h20 _ ?_; clear h20; try clear N20
    refine vc_ret ?_
    try simp only [k_rules]
    have hr : decide (l = m ∧ P = Q) = false := decide_eq_false (fun h => hab h.1)
    rw [hr]
    refine fin2_ ?_
    exact cl_
   ·first | omega | exact absurd trivial hb19 | contradiction | (simp_all; done)
 ·cases hg

def E_idxs : Env Try.prog := E_txfR.add 12 (Spec.pure idxsG) idxs_meets (by kernel_rfl)
end Go.Proofs.Ytjdhadbnmghdgaa
