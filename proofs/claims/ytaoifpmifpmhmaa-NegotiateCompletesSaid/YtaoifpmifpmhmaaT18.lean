/- Walks, printed by wip/gen/walk.py. -/
import Derived.Test.YtaoifpmifpmhmaaT17
import Derived.Test.YtaoifpmifpmhmaaV4
set_option linter.all false
set_option maxRecDepth 100000
set_option maxHeartbeats 4000000
namespace Go.Proofs.Ytaoifpmifpmhmaa
open Go Go.Vc Go.RowKit
theorem commits_meets : Meets Try.prog 32 (Spec.pure commitsG) := by
 refine meets_fun (E_lawDeep.at_ 61) Try.func32 rfl rfl rfl ?_
 intro args p r hg hp
 unfold commitsG at hg
 split at hg
 ·rename_i xs ys
  simp only [Option.some.injEq, Prod.mk.injEq] at hg
  obtain ⟨rfl, rfl⟩ := hg
  obtain ⟨he, hf, hl, hm, hsl, hsm⟩ := hp
  generalize dC xs = l at *
  generalize dC ys = m at *
  subst he hf
  have hT : (E_lawDeep).X = T := rfl
  have hx0 := And.intro @rect_eC (And.intro @dI_rows @Try.results32)
  have hx := hx0
  refine ⟨by rfl, ?_⟩
  intro F W0 hnp hmk
  refine vc_seq_k fun N1 h1 => ?_
  refine u_reg ?_
  try refine lg_mk ?_
  refine u_mv ?_
  refine lg_nil ?_
  refine h1 _ ?_; clear h1; try clear N1
  refine vc_seq_k fun N2 h2 => ?_
  refine vc_seq_k fun N3 h3 => ?_
  refine u_reg ?_
  try refine lg_mk ?_
  refine u_mv ?_
  refine u_ln ?_
  refine u_mv ?_
  refine u_ln ?_
  refine u_bn ?_
  refine lg_nil ?_
  refine h3 _ ?_; clear h3; try clear N3
  refine u_cond (fun hb4 => ?_) (fun hb4 => ?_)
  ·refine vc_seq_k fun N5 h5 => ?_
   refine u_reg ?_
   try refine lg_mk ?_
   refine u_mv ?_
   refine lg_nil ?_
   refine h5 _ ?_; clear h5; try clear N5
   refine vc_ret ?_
   try simp only [k_rules]
   have hr : decide (l = m) = false := decide_eq_false (fun h => by subst h; omega)
   rw [hr]
   refine fin2_ ?_
   exact cl_
  ·refine vc_skip ?_
   try simp only [k_rules]
   refine h2 _ ?_; clear h2; try clear N2
   refine vc_seq_k fun N6 h6 => ?_
   refine vc_seq_k fun N7 h7 => ?_
   refine u_reg ?_
   try refine lg_mk ?_
   refine u_mv ?_
   refine lg_nil ?_
   refine h7 _ ?_; clear h7; try clear N7
   refine vc_block ?_
   refine vc_loop_mk (σ := Nat) (fun s => (fun i => l.length = m.length ∧ i ≤ l.length ∧ l.take i = m.take i) s)
    (fun s => (fun i => [(0, .d (.sl (rows eC l))), (1, .d (.sl (rows eC m))), (5, .d (.int .i64 (i : Nat)))]) s)
    (fun s => (fun i => []) s) (fun s => (fun i => l.length - i) s) hnp 0 ?_ [] ?_ ?_
   ·dsimp only
    refine ⟨by omega, by omega, rfl⟩
   ·dsimp only
    refine ⟨by rfl, ?_, ?_⟩
    ·refine fin_ ?_
     exact cl_
    ·refine fin_ ?_
     exact cl_
   ·rintro i hinv N8 h8
    dsimp only at hinv ⊢
    obtain ⟨i1, i2, i3⟩ := hinv
    refine vc_seq_k fun N9 h9 => ?_
    refine vc_seq_k fun N10 h10 => ?_
    refine u_reg ?_
    try refine lg_mk ?_
    refine u_mv ?_
    refine u_mv ?_
    refine u_ln ?_
    refine u_bn ?_
    refine lg_nil ?_
    refine h10 _ ?_; clear h10; try clear N10
    refine u_cond (fun hb11 => ?_) (fun hb11 => ?_)
    ·obtain ⟨a, ha⟩ := getE (l := l) (i := i) (by omega)
     obtain ⟨c, hce⟩ := getE (l := m) (i := i) (by omega)
     obtain ⟨a1, a2⟩ := hsl a (mem_at ha)
     obtain ⟨c1, c2⟩ := hsm c (mem_at hce)
     refine vc_skip ?_
     try simp only [k_rules]
     refine h9 _ ?_; clear h9; try clear N9
     refine vc_seq_k fun N12 h12 => ?_
     refine vc_block ?_
     refine vc_seq_m (σ := Unit) (fun s => (fun u => True) s)
      (fun s => (fun u => [(0, .d (.sl (rows eC l))), (1, .d (.sl (rows eC m))), (5, .d (.int .i64 (i : Nat))), (6, .ptr 0 0 0), (7, .ptr 1 0 0)]) s)
      (fun s => (fun u => [some (.one 40 [.d (.sl (rows eI a.par)), .d (.int .i64 a.au), .d (.int .i64 a.ti), .d (.int .i64 a.tr), .d (.str a.ms)]), some (.one 40 [.d (.sl (rows eI c.par)), .d (.int .i64 c.au), .d (.int .i64 c.ti), .d (.int .i64 c.tr), .d (.str c.ms)])]) s) hnp ?_ ?_
     ·rintro u hinv
      dsimp only at hinv ⊢
      refine vc_seq_k fun N14 h14 => ?_
      refine u_reg ?_
      try refine lg_mk ?_
      refine u_pt ?_
      refine u_ld ?_
      refine u_pt ?_
      refine u_ld ?_
      have hc := call_rule (E := (E_lawDeep.at_ 61)) (f := 17) (sp := Spec.pure intsG) rfl
      have hs := @intsG.eq_1
      refine u_cp ?_
      refine u_un ?_
      refine u_mv ?_
      refine g_pt ?_
      refine g_ld ?_
      refine g_pt ?_
      refine g_ld ?_
      refine g_bn ?_
      refine u_pk ?_
      refine u_mv ?_
      refine g_pt ?_
      refine g_ld ?_
      refine g_pt ?_
      refine g_ld ?_
      refine g_bn ?_
      refine u_pk ?_
      refine u_mv ?_
      refine g_pt ?_
      refine g_ld ?_
      refine g_pt ?_
      refine g_ld ?_
      refine g_bn ?_
      refine u_pk ?_
      refine u_mv ?_
      refine g_pt ?_
      refine g_ld ?_
      refine g_pt ?_
      refine g_ld ?_
      refine g_bn ?_
      refine u_pk ?_
      refine lg_nil ?_
      refine h14 _ ?_; clear h14; try clear N14
      refine u_cond (fun hb15 => ?_) (fun hb15 => ?_)
      ·have hne : a ≠ c := fun h => by subst h; have := hb15; simp_all
       refine vc_seq_k fun N16 h16 => ?_
       refine u_reg ?_
       try refine lg_mk ?_
       refine u_mv ?_
       refine lg_nil ?_
       refine h16 _ ?_; clear h16; try clear N16
       refine vc_ret ?_
       try simp only [k_rules]
       have hr : decide (l = m) = false := decide_eq_false (ne_at ha hce hne)
       rw [hr]
       refine fin2_ ?_
       exact cl_
      ·have hne : a = c := cm_ext.2 (by have := hb15; simp_all)
       refine vc_skip ?_
       try simp only [k_rules]
       refine h12 _ ?_; clear h12; try clear N12
       refine u_reg ?_
       try refine lg_mk ?_
       refine u_mv ?_
       refine u_bn ?_
       refine u_mv ?_
       refine lg_nil ?_
       refine h8 _ ⟨i + 1, ?_, ?_, [], ?_⟩
       ·dsimp only
        subst hne
        exact ⟨i1, by omega, take_at ha hce i3⟩
       ·dsimp only
        omega
       ·dsimp only
        refine ⟨by rfl, ?_, ?_⟩
        ·refine fin_ ?_
         exact cl_
        ·refine fin_ ?_
         exact cl_
     ·intro N13 h13
      have hx := And.intro @ha (And.intro @hce (And.intro @eC.eq_1 hx0))
      refine vc_regT [] (.seq [0, 1, 2, 3, 4, 5] (.alt 6 (.alt 7 (.alt 8 (.seq [9, 10, 11] .nil) (.alt 9 (.seq [8, 10, 11] .nil) .nil)) (.alt 8 (.alt 7 (.seq [9, 10, 11] .nil) (.alt 9 (.alt 7 (.seq [10, 11] .nil) (.alt 10 (.seq [7, 11] .nil) .nil)) .nil)) (.alt 9 (.alt 7 (.seq [8, 10, 11] .nil) (.alt 8 (.alt 7 (.seq [10, 11] .nil) (.alt 10 (.seq [7, 11] .nil) .nil)) .nil)) .nil))) (.alt 8 (.alt 6 (.alt 7 (.seq [9, 10, 11] .nil) (.alt 9 (.alt 7 (.seq [10, 11] .nil) (.alt 10 (.seq [7, 11] .nil) .nil)) .nil)) (.alt 9 (.alt 6 (.alt 7 (.seq [10, 11] .nil) (.alt 10 (.seq [7, 11] .nil) .nil)) (.alt 10 (.seq [6, 7, 11] .nil) .nil)) .nil)) (.alt 9 (.alt 6 (.alt 7 (.seq [8, 10, 11] .nil) (.alt 8 (.alt 7 (.seq [10, 11] .nil) (.alt 10 (.seq [7, 11] .nil) .nil)) .nil)) (.alt 8 (.alt 6 (.alt 7 (.seq [10, 11] .nil) (.alt 10 (.seq [7, 11] .nil) .nil)) (.alt 10 (.seq [6, 7, 11] .nil) .nil)) .nil)) .nil)))) hmix (by kernel_rfl) ?_
      refine at_seq ?_
      simp only [pick_rules, list_rules]
      try refine lg_mk ?_
      refine u_mv ?_
      refine u_mv ?_
      refine u_pt ?_
      refine u_ld ?_
      refine u_mv ?_
      refine u_mv ?_
      refine lg_nil ?_
      refine at_alt ?_ ?_
      ·simp only [pick_rules, list_rules]
       try refine lg_mk ?_
       refine u_pt ?_
       refine lg_nil ?_
       refine at_alt ?_ ?_
       ·simp only [pick_rules, list_rules]
        try refine lg_mk ?_
        refine u_ld ?_
        refine lg_nil ?_
        refine at_alt ?_ ?_
        ·simp only [pick_rules, list_rules]
         try refine lg_mk ?_
         refine u_al ?_
         refine lg_nil ?_
         refine at_seq ?_
         simp only [pick_rules, list_rules]
         try refine lg_mk ?_
         refine u_al ?_
         refine u_st ?_
         refine u_st ?_
         refine lg_nil ?_
         refine at_nil ?_
         have hx := hx0
         refine h13 _ ⟨(), trivial, [some 0, some 1], ?_⟩
         ·dsimp only
          refine ⟨by rfl, ?_, ?_⟩
          ·refine fin_ ?_
           exact cl_
          ·refine fin_ ?_
           exact cl_
        refine at_alt ?_ ?_
        ·simp only [pick_rules, list_rules]
         try refine lg_mk ?_
         refine u_al ?_
         refine lg_nil ?_
         refine at_seq ?_
         simp only [pick_rules, list_rules]
         try refine lg_mk ?_
         refine u_al ?_
         refine u_st ?_
         refine u_st ?_
         refine lg_nil ?_
         refine at_nil ?_
         have hx := hx0
         refine h13 _ ⟨(), trivial, [some 1, some 0], ?_⟩
         ·dsimp only
          refine ⟨by rfl, ?_, ?_⟩
          ·refine fin_ ?_
           exact cl_
          ·refine fin_ ?_
           exact cl_
        exact at_end
       refine at_alt ?_ ?_
       ·simp only [pick_rules, list_rules]
        try refine lg_mk ?_
        refine u_al ?_
        refine lg_nil ?_
        refine at_alt ?_ ?_
        ·simp only [pick_rules, list_rules]
         try refine lg_mk ?_
         refine u_ld ?_
         refine lg_nil ?_
         refine at_seq ?_
         simp only [pick_rules, list_rules]
         try refine lg_mk ?_
         refine u_al ?_
         refine u_st ?_
         refine u_st ?_
         refine lg_nil ?_
         refine at_nil ?_
         have hx := hx0
         refine h13 _ ⟨(), trivial, [some 0, some 1], ?_⟩
         ·dsimp only
          refine ⟨by rfl, ?_, ?_⟩
          ·refine fin_ ?_
           exact cl_
          ·refine fin_ ?_
           exact cl_
        refine at_alt ?_ ?_
        ·simp only [pick_rules, list_rules]
         try refine lg_mk ?_
         refine u_al ?_
         refine lg_nil ?_
         refine at_alt ?_ ?_
         ·simp only [pick_rules, list_rules]
          try refine lg_mk ?_
          refine u_ld ?_
          refine lg_nil ?_
          refine at_seq ?_
          simp only [pick_rules, list_rules]
          try refine lg_mk ?_
          refine u_st ?_
          refine u_st ?_
          refine lg_nil ?_
          refine at_nil ?_
          have hx := hx0
          refine h13 _ ⟨(), trivial, [some 0, some 1], ?_⟩
          ·dsimp only
           refine ⟨by rfl, ?_, ?_⟩
           ·refine fin_ ?_
            exact cl_
           ·refine fin_ ?_
            exact cl_
         refine at_alt ?_ ?_
         ·simp only [pick_rules, list_rules]
          try refine lg_mk ?_
          refine u_st ?_
          refine lg_nil ?_
          refine at_seq ?_
          simp only [pick_rules, list_rules]
          try refine lg_mk ?_
          refine u_ld ?_
          refine u_st ?_
          refine lg_nil ?_
          refine at_nil ?_
          have hx := hx0
          refine h13 _ ⟨(), trivial, [some 0, some 1], ?_⟩
          ·dsimp only
           refine ⟨by rfl, ?_, ?_⟩
           ·refine fin_ ?_
            exact cl_
           ·refine fin_ ?_
            exact cl_
         exact at_end
        exact at_end
       refine at_alt ?_ ?_
       ·simp only [pick_rules, list_rules]
        try refine lg_mk ?_
        refine u_al ?_
        refine lg_nil ?_
        refine at_alt ?_ ?_
        ·simp only [pick_rules, list_rules]
         try refine lg_mk ?_
         refine u_ld ?_
         refine lg_nil ?_
         refine at_seq ?_
         simp only [pick_rules, list_rules]
         try refine lg_mk ?_
         refine u_al ?_
         refine u_st ?_
         refine u_st ?_
         refine lg_nil ?_
         refine at_nil ?_
         have hx := hx0
         refine h13 _ ⟨(), trivial, [some 1, some 0], ?_⟩
         ·dsimp only
          refine ⟨by rfl, ?_, ?_⟩
          ·refine fin_ ?_
           exact cl_
          ·refine fin_ ?_
           exact cl_
        refine at_alt ?_ ?_
        ·simp only [pick_rules, list_rules]
         try refine lg_mk ?_
         refine u_al ?_
         refine lg_nil ?_
         refine at_alt ?_ ?_
         ·simp only [pick_rules, list_rules]
          try refine lg_mk ?_
          refine u_ld ?_
          refine lg_nil ?_
          refine at_seq ?_
          simp only [pick_rules, list_rules]
          try refine lg_mk ?_
          refine u_st ?_
          refine u_st ?_
          refine lg_nil ?_
          refine at_nil ?_
          have hx := hx0
          refine h13 _ ⟨(), trivial, [some 1, some 0], ?_⟩
          ·dsimp only
           refine ⟨by rfl, ?_, ?_⟩
           ·refine fin_ ?_
            exact cl_
           ·refine fin_ ?_
            exact cl_
         refine at_alt ?_ ?_
         ·simp only [pick_rules, list_rules]
          try refine lg_mk ?_
          refine u_st ?_
          refine lg_nil ?_
          refine at_seq ?_
          simp only [pick_rules, list_rules]
          try refine lg_mk ?_
          refine u_ld ?_
          refine u_st ?_
          refine lg_nil ?_
          refine at_nil ?_
          have hx := hx0
          refine h13 _ ⟨(), trivial, [some 1, some 0], ?_⟩
          ·dsimp only
           refine ⟨by rfl, ?_, ?_⟩
           ·refine fin_ ?_
            exact cl_
           ·refine fin_ ?_
            exact cl_
         exact at_end
        exact at_end
       exact at_end
      refine at_alt ?_ ?_
      ·simp only [pick_rules, list_rules]
       try refine lg_mk ?_
       refine u_al ?_
       refine lg_nil ?_
       refine at_alt ?_ ?_
       ·simp only [pick_rules, list_rules]
        try refine lg_mk ?_
        refine u_pt ?_
        refine lg_nil ?_
        refine at_alt ?_ ?_
        ·simp only [pick_rules, list_rules]
         try refine lg_mk ?_
         refine u_ld ?_
         refine lg_nil ?_
         refine at_seq ?_
         simp only [pick_rules, list_rules]
         try refine lg_mk ?_
         refine u_al ?_
         refine u_st ?_
         refine u_st ?_
         refine lg_nil ?_
         refine at_nil ?_
         have hx := hx0
         refine h13 _ ⟨(), trivial, [some 0, some 1], ?_⟩
         ·dsimp only
          refine ⟨by rfl, ?_, ?_⟩
          ·refine fin_ ?_
           exact cl_
          ·refine fin_ ?_
           exact cl_
        refine at_alt ?_ ?_
        ·simp only [pick_rules, list_rules]
         try refine lg_mk ?_
         refine u_al ?_
         refine lg_nil ?_
         refine at_alt ?_ ?_
         ·simp only [pick_rules, list_rules]
          try refine lg_mk ?_
          refine u_ld ?_
          refine lg_nil ?_
          refine at_seq ?_
          simp only [pick_rules, list_rules]
          try refine lg_mk ?_
          refine u_st ?_
          refine u_st ?_
          refine lg_nil ?_
          refine at_nil ?_
          have hx := hx0
          refine h13 _ ⟨(), trivial, [some 0, some 1], ?_⟩
          ·dsimp only
           refine ⟨by rfl, ?_, ?_⟩
           ·refine fin_ ?_
            exact cl_
           ·refine fin_ ?_
            exact cl_
         refine at_alt ?_ ?_
         ·simp only [pick_rules, list_rules]
          try refine lg_mk ?_
          refine u_st ?_
          refine lg_nil ?_
          refine at_seq ?_
          simp only [pick_rules, list_rules]
          try refine lg_mk ?_
          refine u_ld ?_
          refine u_st ?_
          refine lg_nil ?_
          refine at_nil ?_
          have hx := hx0
          refine h13 _ ⟨(), trivial, [some 0, some 1], ?_⟩
          ·dsimp only
           refine ⟨by rfl, ?_, ?_⟩
           ·refine fin_ ?_
            exact cl_
           ·refine fin_ ?_
            exact cl_
         exact at_end
        exact at_end
       refine at_alt ?_ ?_
       ·simp only [pick_rules, list_rules]
        try refine lg_mk ?_
        refine u_al ?_
        refine lg_nil ?_
        refine at_alt ?_ ?_
        ·simp only [pick_rules, list_rules]
         try refine lg_mk ?_
         refine u_pt ?_
         refine lg_nil ?_
         refine at_alt ?_ ?_
         ·simp only [pick_rules, list_rules]
          try refine lg_mk ?_
          refine u_ld ?_
          refine lg_nil ?_
          refine at_seq ?_
          simp only [pick_rules, list_rules]
          try refine lg_mk ?_
          refine u_st ?_
          refine u_st ?_
          refine lg_nil ?_
          refine at_nil ?_
          have hx := hx0
          refine h13 _ ⟨(), trivial, [some 0, some 1], ?_⟩
          ·dsimp only
           refine ⟨by rfl, ?_, ?_⟩
           ·refine fin_ ?_
            exact cl_
           ·refine fin_ ?_
            exact cl_
         refine at_alt ?_ ?_
         ·simp only [pick_rules, list_rules]
          try refine lg_mk ?_
          refine u_st ?_
          refine lg_nil ?_
          refine at_seq ?_
          simp only [pick_rules, list_rules]
          try refine lg_mk ?_
          refine u_ld ?_
          refine u_st ?_
          refine lg_nil ?_
          refine at_nil ?_
          have hx := hx0
          refine h13 _ ⟨(), trivial, [some 0, some 1], ?_⟩
          ·dsimp only
           refine ⟨by rfl, ?_, ?_⟩
           ·refine fin_ ?_
            exact cl_
           ·refine fin_ ?_
            exact cl_
         exact at_end
        refine at_alt ?_ ?_
        ·simp only [pick_rules, list_rules]
         try refine lg_mk ?_
         refine u_st ?_
         refine lg_nil ?_
         refine at_seq ?_
         simp only [pick_rules, list_rules]
         try refine lg_mk ?_
         refine u_pt ?_
         refine u_ld ?_
         refine u_st ?_
         refine lg_nil ?_
         refine at_nil ?_
         have hx := hx0
         refine h13 _ ⟨(), trivial, [some 0, some 1], ?_⟩
         ·dsimp only
          refine ⟨by rfl, ?_, ?_⟩
          ·refine fin_ ?_
           exact cl_
          ·refine fin_ ?_
           exact cl_
        exact at_end
       exact at_end
      refine at_alt ?_ ?_
      ·simp only [pick_rules, list_rules]
       try refine lg_mk ?_
       refine u_al ?_
       refine lg_nil ?_
       refine at_alt ?_ ?_
       ·simp only [pick_rules, list_rules]
        try refine lg_mk ?_
        refine u_pt ?_
        refine lg_nil ?_
        refine at_alt ?_ ?_
        ·simp only [pick_rules, list_rules]
         try refine lg_mk ?_
         refine u_ld ?_
         refine lg_nil ?_
         refine at_seq ?_
         simp only [pick_rules, list_rules]
         try refine lg_mk ?_
         refine u_al ?_
         refine u_st ?_
         refine u_st ?_
         refine lg_nil ?_
         refine at_nil ?_
         have hx := hx0
         refine h13 _ ⟨(), trivial, [some 1, some 0], ?_⟩
         ·dsimp only
          refine ⟨by rfl, ?_, ?_⟩
          ·refine fin_ ?_
           exact cl_
          ·refine fin_ ?_
           exact cl_
        refine at_alt ?_ ?_
        ·simp only [pick_rules, list_rules]
         try refine lg_mk ?_
         refine u_al ?_
         refine lg_nil ?_
         refine at_alt ?_ ?_
         ·simp only [pick_rules, list_rules]
          try refine lg_mk ?_
          refine u_ld ?_
          refine lg_nil ?_
          refine at_seq ?_
          simp only [pick_rules, list_rules]
          try refine lg_mk ?_
          refine u_st ?_
          refine u_st ?_
          refine lg_nil ?_
          refine at_nil ?_
          have hx := hx0
          refine h13 _ ⟨(), trivial, [some 1, some 0], ?_⟩
          ·dsimp only
           refine ⟨by rfl, ?_, ?_⟩
           ·refine fin_ ?_
            exact cl_
           ·refine fin_ ?_
            exact cl_
         refine at_alt ?_ ?_
         ·simp only [pick_rules, list_rules]
          try refine lg_mk ?_
          refine u_st ?_
          refine lg_nil ?_
          refine at_seq ?_
          simp only [pick_rules, list_rules]
          try refine lg_mk ?_
          refine u_ld ?_
          refine u_st ?_
          refine lg_nil ?_
          refine at_nil ?_
          have hx := hx0
          refine h13 _ ⟨(), trivial, [some 1, some 0], ?_⟩
          ·dsimp only
           refine ⟨by rfl, ?_, ?_⟩
           ·refine fin_ ?_
            exact cl_
           ·refine fin_ ?_
            exact cl_
         exact at_end
        exact at_end
       refine at_alt ?_ ?_
       ·simp only [pick_rules, list_rules]
        try refine lg_mk ?_
        refine u_al ?_
        refine lg_nil ?_
        refine at_alt ?_ ?_
        ·simp only [pick_rules, list_rules]
         try refine lg_mk ?_
         refine u_pt ?_
         refine lg_nil ?_
         refine at_alt ?_ ?_
         ·simp only [pick_rules, list_rules]
          try refine lg_mk ?_
          refine u_ld ?_
          refine lg_nil ?_
          refine at_seq ?_
          simp only [pick_rules, list_rules]
          try refine lg_mk ?_
          refine u_st ?_
          refine u_st ?_
          refine lg_nil ?_
          refine at_nil ?_
          have hx := hx0
          refine h13 _ ⟨(), trivial, [some 1, some 0], ?_⟩
          ·dsimp only
           refine ⟨by rfl, ?_, ?_⟩
           ·refine fin_ ?_
            exact cl_
           ·refine fin_ ?_
            exact cl_
         refine at_alt ?_ ?_
         ·simp only [pick_rules, list_rules]
          try refine lg_mk ?_
          refine u_st ?_
          refine lg_nil ?_
          refine at_seq ?_
          simp only [pick_rules, list_rules]
          try refine lg_mk ?_
          refine u_ld ?_
          refine u_st ?_
          refine lg_nil ?_
          refine at_nil ?_
          have hx := hx0
          refine h13 _ ⟨(), trivial, [some 1, some 0], ?_⟩
          ·dsimp only
           refine ⟨by rfl, ?_, ?_⟩
           ·refine fin_ ?_
            exact cl_
           ·refine fin_ ?_
            exact cl_
         exact at_end
        refine at_alt ?_ ?_
        ·simp only [pick_rules, list_rules]
         try refine lg_mk ?_
         refine u_st ?_
         refine lg_nil ?_
         refine at_seq ?_
         simp only [pick_rules, list_rules]
         try refine lg_mk ?_
         refine u_pt ?_
         refine u_ld ?_
         refine u_st ?_
         refine lg_nil ?_
         refine at_nil ?_
         have hx := hx0
         refine h13 _ ⟨(), trivial, [some 1, some 0], ?_⟩
         ·dsimp only
          refine ⟨by rfl, ?_, ?_⟩
          ·refine fin_ ?_
           exact cl_
          ·refine fin_ ?_
           exact cl_
        exact at_end
       exact at_end
      exact at_end
    ·refine vc_exit ?_
     simp only [k_rules, Nat.reduceEqDiff, reduceIte, eq_self]
     refine h6 _ ?_; clear h6; try clear N6
     refine vc_seq_k fun N17 h17 => ?_
     refine u_reg ?_
     try refine lg_mk ?_
     refine u_mv ?_
     refine lg_nil ?_
     refine h17 _ ?_; clear h17; try clear N17
     refine vc_ret ?_
     try simp only [k_rules]
     have hr : decide (l = m) = true := decide_eq_true (by rw [List.take_of_length_le (by omega), List.take_of_length_le (by omega)] at i3; exact i3)
     rw [hr]
     refine fin2_ ?_
     exact cl_
 ·cases hg

def E_commits : Env Try.prog := E_lawDeep.add 32 (Spec.pure commitsG) commits_meets (by kernel_rfl)
end Go.Proofs.Ytaoifpmifpmhmaa
