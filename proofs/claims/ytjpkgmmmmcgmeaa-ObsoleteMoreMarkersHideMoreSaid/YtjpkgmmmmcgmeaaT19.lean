/- Walks, printed by wip/gen/walk.py. -/
import Derived.Test.YtjpkgmmmmcgmeaaT14
import Derived.Test.YtjpkgmmmmcgmeaaV6
import Derived.Test.YtjpkgmmmmcgmeaaV5
set_option linter.all false
set_option maxRecDepth 100000
set_option maxHeartbeats 4000000
namespace Go.Proofs.Ytjpkgmmmmcgmeaa
open Go Go.Vc Go.RowKit
theorem lawMh_meets : Meets Try.prog 7 (Spec.pure lawHG) := by
 refine meets_fun (E_exO.at_ 93) Try.func7 rfl rfl rfl ?_
 intro args p r hg hp
 unfold lawHG at hg
 split at hg
 ·rename_i xs ys zs
  simp only [Option.some.injEq, Prod.mk.injEq] at hg
  obtain ⟨rfl, rfl⟩ := hg
  obtain ⟨he, he2, hl, hl2, hsa, hsb, he3, hl3⟩ := hp
  generalize dM xs = a at *
  generalize dM ys = b at *
  generalize dI zs = cs at *
  subst he he2 he3
  have hs0 : smallM [] := fun m hm => by cases hm
  have hab := mgR_len a b
  have hsab := mgR_small hsa hsb
  have hva := visR_len a cs
  have hvb := visR_len b cs
  have hvc := visR_len (mgR a b) cs
  have hT : (E_exO).X = T := rfl
  have hx0 := And.intro @rect_eM (And.intro @dI_rows (And.intro @dM_rows (And.intro @dC_rows (And.intro @dI_nil (And.intro @dM_nil (And.intro @rI_nil (And.intro @rM_nil (And.intro @dI_one (And.intro @rI_one (And.intro @dec_t (And.intro @dec_f @Try.results7)))))))))))
  have hx := hx0
  refine ⟨by rfl, ?_⟩
  intro F W0 hnp hmk
  refine vc_seq_k fun N1 h1 => ?_
  refine u_reg ?_
  try refine lg_mk ?_
  refine u_mv ?_
  refine lg_nil ?_
  refine h1 _ ?_; clear h1; try clear N1
  refine vc_seq_k fun N2 h2 => ?_
  refine vc_seq_k fun N3 h3 => ?_
  refine u_reg ?_
  try refine lg_mk ?_
  have hc := call_rule (E := (E_exO.at_ 93)) (f := 9) (sp := Spec.pure exG) rfl
  have hs := @exG.eq_1
  refine u_cp ?_
  refine u_un ?_
  refine lg_nil ?_
  refine h3 _ ?_; clear h3; try clear N3
  refine u_cond (fun hb4 => ?_) (fun hb4 => ?_)
  ·first | omega | exact absurd trivial hb4 | contradiction | (simp_all; done)
  ·refine vc_skip ?_
   try simp only [k_rules]
   refine h2 _ ?_; clear h2; try clear N2
   refine vc_seq_k fun N5 h5 => ?_
   rcases mh_or a b cs with hcs | hcs | hcs
   ·obtain ⟨p1, p2⟩ := hcs
    have hx0 := And.intro @p1 (And.intro @p2 (hx0))
    have hx := hx0
    refine u_reg ?_
    try refine lg_mk ?_
    refine u_mv ?_
    refine u_mv ?_
    have hc := call_rule (E := (E_exO.at_ 93)) (f := 10) (sp := Spec.pure mgG) rfl
    have hs := @mgG.eq_1
    refine u_hp ?_
    refine u_mv ?_
    refine u_ex ?_
    refine u_ex ?_
    refine u_al ?_
    refine u_mv ?_
    refine u_st ?_
    refine lg_nil ?_
    refine h5 _ ?_; clear h5; try clear N5
    refine vc_seq_k fun N6 h6 => ?_
    refine u_reg ?_
    try refine lg_mk ?_
    refine u_mv ?_
    refine u_mv ?_
    have hc := call_rule (E := (E_exO.at_ 93)) (f := 23) (sp := Spec.pure visG) rfl
    have hs := @visG.eq_1
    refine u_hp ?_
    refine u_mv ?_
    refine u_ex ?_
    refine u_ex ?_
    refine u_al ?_
    refine u_mv ?_
    refine u_st ?_
    refine lg_nil ?_
    refine h6 _ ?_; clear h6; try clear N6
    refine vc_seq_k fun N7 h7 => ?_
    refine vc_seq_k fun N8 h8 => ?_
    refine u_reg ?_
    try refine lg_mk ?_
    refine u_pt ?_
    refine u_ld ?_
    refine u_bn ?_
    refine u_mv ?_
    refine g_pt ?_
    refine g_ld ?_
    refine g_bn ?_
    refine u_pk ?_
    refine lg_nil ?_
    refine h8 _ ?_; clear h8; try clear N8
    refine u_cond (fun hb9 => ?_) (fun hb9 => ?_)
    ·refine vc_seq_k fun N10 h10 => ?_
     refine u_reg ?_
     try refine lg_mk ?_
     refine u_pt ?_
     refine u_ld ?_
     refine u_bn ?_
     refine u_mv ?_
     refine g_mv ?_
     refine g_ln ?_
     refine g_bn ?_
     refine u_pk ?_
     refine u_mv ?_
     refine lg_nil ?_
     refine h10 _ ?_; clear h10; try clear N10
     refine vc_ret ?_
     try simp only [k_rules]
     refine fin2_ ?_
     (repeat' apply And.intro) <;> (first | (first | rfl | (simp; done) | (simp [*]; done) | (left; rfl)) | exact cl_)
    ·first | omega | exact absurd trivial hb9 | contradiction | (simp_all; done)
   ·obtain ⟨p1, p2⟩ := hcs
    have hx0 := And.intro @p1 (And.intro @p2 (hx0))
    have hx := hx0
    refine u_reg ?_
    try refine lg_mk ?_
    refine u_mv ?_
    refine u_mv ?_
    have hc := call_rule (E := (E_exO.at_ 93)) (f := 10) (sp := Spec.pure mgG) rfl
    have hs := @mgG.eq_1
    refine u_hp ?_
    refine u_mv ?_
    refine u_ex ?_
    refine u_ex ?_
    refine u_al ?_
    refine u_mv ?_
    refine u_st ?_
    refine lg_nil ?_
    refine h5 _ ?_; clear h5; try clear N5
    refine vc_seq_k fun N11 h11 => ?_
    refine u_reg ?_
    try refine lg_mk ?_
    refine u_mv ?_
    refine u_mv ?_
    have hc := call_rule (E := (E_exO.at_ 93)) (f := 23) (sp := Spec.pure visG) rfl
    have hs := @visG.eq_1
    refine u_hp ?_
    refine u_mv ?_
    refine u_ex ?_
    refine u_ex ?_
    refine u_al ?_
    refine u_mv ?_
    refine u_st ?_
    refine lg_nil ?_
    refine h11 _ ?_; clear h11; try clear N11
    refine vc_seq_k fun N12 h12 => ?_
    refine vc_seq_k fun N13 h13 => ?_
    refine u_reg ?_
    try refine lg_mk ?_
    refine u_pt ?_
    refine u_ld ?_
    refine u_bn ?_
    refine u_mv ?_
    refine g_pt ?_
    refine g_ld ?_
    refine g_bn ?_
    refine u_pk ?_
    refine lg_nil ?_
    refine h13 _ ?_; clear h13; try clear N13
    refine u_cond (fun hb14 => ?_) (fun hb14 => ?_)
    ·refine vc_seq_k fun N15 h15 => ?_
     refine u_reg ?_
     try refine lg_mk ?_
     refine u_pt ?_
     refine u_ld ?_
     refine u_bn ?_
     refine u_mv ?_
     refine g_mv ?_
     refine g_ln ?_
     refine g_bn ?_
     refine u_pk ?_
     refine u_mv ?_
     refine lg_nil ?_
     refine h15 _ ?_; clear h15; try clear N15
     refine vc_ret ?_
     try simp only [k_rules]
     refine fin2_ ?_
     (repeat' apply And.intro) <;> (first | (first | rfl | (simp; done) | (simp [*]; done) | (left; rfl)) | exact cl_)
    ·first | omega | exact absurd trivial hb14 | contradiction | (simp_all; done)
   ·obtain ⟨hall, p1, p2, p3, p4⟩ := hcs
    have hx0 := And.intro @p1 (And.intro @p2 (And.intro @p3 (And.intro @p4 (hx0))))
    have hx := hx0
    refine u_reg ?_
    try refine lg_mk ?_
    refine u_mv ?_
    refine u_mv ?_
    have hc := call_rule (E := (E_exO.at_ 93)) (f := 10) (sp := Spec.pure mgG) rfl
    have hs := @mgG.eq_1
    refine u_hp ?_
    refine u_mv ?_
    refine u_ex ?_
    refine u_ex ?_
    refine u_al ?_
    refine u_mv ?_
    refine u_st ?_
    refine lg_nil ?_
    refine h5 _ ?_; clear h5; try clear N5
    refine vc_seq_k fun N16 h16 => ?_
    refine u_reg ?_
    try refine lg_mk ?_
    refine u_mv ?_
    refine u_mv ?_
    have hc := call_rule (E := (E_exO.at_ 93)) (f := 23) (sp := Spec.pure visG) rfl
    have hs := @visG.eq_1
    refine u_hp ?_
    refine u_mv ?_
    refine u_ex ?_
    refine u_ex ?_
    refine u_al ?_
    refine u_mv ?_
    refine u_st ?_
    refine lg_nil ?_
    refine h16 _ ?_; clear h16; try clear N16
    refine vc_seq_k fun N17 h17 => ?_
    refine vc_seq_k fun N18 h18 => ?_
    refine u_reg ?_
    try refine lg_mk ?_
    refine u_pt ?_
    refine u_ld ?_
    refine u_bn ?_
    refine u_mv ?_
    refine g_pt ?_
    refine g_ld ?_
    refine g_bn ?_
    refine u_pk ?_
    refine lg_nil ?_
    refine h18 _ ?_; clear h18; try clear N18
    refine u_cond (fun hb19 => ?_) (fun hb19 => ?_)
    ·first | omega | exact absurd trivial hb19 | contradiction | (simp_all; done)
    ·refine vc_skip ?_
     try simp only [k_rules]
     refine h17 _ ?_; clear h17; try clear N17
     refine vc_seq_k fun N20 h20 => ?_
     refine u_reg ?_
     try refine lg_mk ?_
     refine u_mv ?_
     refine u_mv ?_
     have hc := call_rule (E := (E_exO.at_ 93)) (f := 23) (sp := Spec.pure visG) rfl
     have hs := @visG.eq_1
     refine u_hp ?_
     refine u_mv ?_
     refine u_ex ?_
     refine u_ex ?_
     refine u_al ?_
     refine u_mv ?_
     refine u_st ?_
     refine lg_nil ?_
     refine h20 _ ?_; clear h20; try clear N20
     refine vc_seq_k fun N21 h21 => ?_
     refine u_reg ?_
     try refine lg_mk ?_
     refine u_mv ?_
     refine u_mv ?_
     have hc := call_rule (E := (E_exO.at_ 93)) (f := 23) (sp := Spec.pure visG) rfl
     have hs := @visG.eq_1
     refine u_hp ?_
     refine u_mv ?_
     refine u_ex ?_
     refine u_ex ?_
     refine u_al ?_
     refine u_mv ?_
     refine u_st ?_
     refine lg_nil ?_
     refine h21 _ ?_; clear h21; try clear N21
     refine vc_seq_k fun N22 h22 => ?_
     refine vc_seq_k fun N23 h23 => ?_
     refine u_reg ?_
     try refine lg_mk ?_
     refine u_pt ?_
     refine u_ld ?_
     refine u_bn ?_
     refine u_mv ?_
     refine g_pt ?_
     refine g_ld ?_
     refine g_bn ?_
     refine u_pk ?_
     refine lg_nil ?_
     refine h23 _ ?_; clear h23; try clear N23
     refine u_cond (fun hb24 => ?_) (fun hb24 => ?_)
     ·first | omega | exact absurd trivial hb24 | contradiction | (simp_all; done)
     ·refine vc_skip ?_
      try simp only [k_rules]
      refine h22 _ ?_; clear h22; try clear N22
      refine vc_seq_k fun N25 h25 => ?_
      refine vc_seq_k fun N26 h26 => ?_
      refine u_reg ?_
      try refine lg_mk ?_
      refine u_mv ?_
      refine lg_nil ?_
      refine h26 _ ?_; clear h26; try clear N26
      refine vc_block ?_
      refine vc_loop_mk (σ := Nat) (fun s => (fun i => i ≤ cs.length) s)
       (fun s => (fun i => [(0, .d (.sl (rows eM a))), (1, .d (.sl (rows eM b))), (2, .d (.sl (rows eI cs))), (9, .d (.sl (rows eI (visR a cs)))), (11, .d (.sl (rows eI (visR b cs)))), (13, .d (.sl (rows eI (visR (mgR a b) cs)))), (15, .d (.int .i64 (i : Nat)))]) s)
       (fun s => (fun i => []) s) (fun s => (fun i => cs.length - i) s) hnp 0 ?_ [] ?_ ?_
      ·dsimp only
       omega
      ·dsimp only
       refine ⟨by rfl, ?_, ?_⟩
       ·refine fin_ ?_
        exact cl_
       ·refine fin_ ?_
        exact cl_
      ·rintro i hinv N27 h27
       dsimp only at hinv ⊢
       have i1 := hinv
       refine vc_seq_k fun N28 h28 => ?_
       refine vc_seq_k fun N29 h29 => ?_
       refine u_reg ?_
       try refine lg_mk ?_
       refine u_mv ?_
       refine u_mv ?_
       refine u_ln ?_
       refine u_bn ?_
       refine lg_nil ?_
       refine h29 _ ?_; clear h29; try clear N29
       refine u_cond (fun hb30 => ?_) (fun hb30 => ?_)
       ·obtain ⟨x, hxe⟩ := getE (l := cs) (i := i) (by omega)
        have hxx := hall x (mem_at hxe)
        refine vc_skip ?_
        try simp only [k_rules]
        refine h28 _ ?_; clear h28; try clear N28
        refine vc_seq_k fun N31 h31 => ?_
        refine vc_block ?_
        refine vc_seq_k fun N32 h32 => ?_
        have hx := And.intro @hxe (And.intro @hxx (And.intro @eI.eq_1 hx0))
        refine vc_regT [] (.seq [0, 1, 2, 3, 4, 6, 7, 8] (.alt 5 (.seq [9, 10, 11, 12, 13, 14, 15, 16, 17, 18, 19, 20] .nil) (.alt 9 (.alt 5 (.seq [10, 11, 12, 13, 14, 15, 16, 17, 18, 19, 20] .nil) (.alt 10 (.seq [5, 11, 12, 13, 14, 15, 16, 17, 18, 19, 20] .nil) .nil)) .nil))) hmix (by kernel_rfl) ?_
        refine at_seq ?_
        simp only [pick_rules, list_rules]
        try refine lg_mk ?_
        refine u_mv ?_
        refine u_mv ?_
        refine u_mv ?_
        refine u_pt ?_
        refine u_ld ?_
        refine u_mv ?_
        refine u_mv ?_
        refine u_mv ?_
        refine lg_nil ?_
        refine at_alt ?_ ?_
        ·simp only [pick_rules, list_rules]
         try refine lg_mk ?_
         have hc := call_rule (E := (E_exO.at_ 93)) (f := 24) (sp := Spec.pure hasG) rfl
         have hs := @hasG.eq_1
         refine u_cp ?_
         refine lg_nil ?_
         refine at_seq ?_
         simp only [pick_rules, list_rules]
         try refine lg_mk ?_
         refine u_pt ?_
         refine u_ld ?_
         have hc := call_rule (E := (E_exO.at_ 93)) (f := 24) (sp := Spec.pure hasG) rfl
         have hs := @hasG.eq_1
         refine u_cp ?_
         refine u_mv ?_
         refine g_mv ?_
         refine g_mv ?_
         refine g_mv ?_
         refine g_pt ?_
         refine g_ld ?_
         have hc := call_rule (E := (E_exO.at_ 93)) (f := 24) (sp := Spec.pure hasG) rfl
         have hs := @hasG.eq_1
         refine g_cp ?_
         refine u_pk ?_
         refine u_bn ?_
         refine lg_nil ?_
         refine at_nil ?_
         have hx := hx0
         refine h32 _ ?_; clear h32; try clear N32
         refine u_cond (fun hb33 => ?_) (fun hb33 => ?_)
         ·exact absurd hb33 (by simp)
         ·refine vc_skip ?_
          try simp only [k_rules]
          refine h31 _ ?_; clear h31; try clear N31
          refine u_reg ?_
          try refine lg_mk ?_
          refine u_mv ?_
          refine u_bn ?_
          refine u_mv ?_
          refine lg_nil ?_
          refine h27 _ ⟨i + 1, ?_, ?_, [], ?_⟩
          ·dsimp only
           omega
          ·dsimp only
           omega
          ·dsimp only
           refine ⟨by rfl, ?_, ?_⟩
           ·refine fin_ ?_
            exact cl_
           ·refine fin_ ?_
            exact cl_
        refine at_alt ?_ ?_
        ·simp only [pick_rules, list_rules]
         try refine lg_mk ?_
         refine u_pt ?_
         refine lg_nil ?_
         refine at_alt ?_ ?_
         ·simp only [pick_rules, list_rules]
          try refine lg_mk ?_
          have hc := call_rule (E := (E_exO.at_ 93)) (f := 24) (sp := Spec.pure hasG) rfl
          have hs := @hasG.eq_1
          refine u_cp ?_
          refine lg_nil ?_
          refine at_seq ?_
          simp only [pick_rules, list_rules]
          try refine lg_mk ?_
          refine u_ld ?_
          have hc := call_rule (E := (E_exO.at_ 93)) (f := 24) (sp := Spec.pure hasG) rfl
          have hs := @hasG.eq_1
          refine u_cp ?_
          refine u_mv ?_
          refine g_mv ?_
          refine g_mv ?_
          refine g_mv ?_
          refine g_pt ?_
          refine g_ld ?_
          have hc := call_rule (E := (E_exO.at_ 93)) (f := 24) (sp := Spec.pure hasG) rfl
          have hs := @hasG.eq_1
          refine g_cp ?_
          refine u_pk ?_
          refine u_bn ?_
          refine lg_nil ?_
          refine at_nil ?_
          have hx := hx0
          refine h32 _ ?_; clear h32; try clear N32
          refine u_cond (fun hb34 => ?_) (fun hb34 => ?_)
          ·exact absurd hb34 (by simp)
          ·refine vc_skip ?_
           try simp only [k_rules]
           refine h31 _ ?_; clear h31; try clear N31
           refine u_reg ?_
           try refine lg_mk ?_
           refine u_mv ?_
           refine u_bn ?_
           refine u_mv ?_
           refine lg_nil ?_
           refine h27 _ ⟨i + 1, ?_, ?_, [], ?_⟩
           ·dsimp only
            omega
           ·dsimp only
            omega
           ·dsimp only
            refine ⟨by rfl, ?_, ?_⟩
            ·refine fin_ ?_
             exact cl_
            ·refine fin_ ?_
             exact cl_
         refine at_alt ?_ ?_
         ·simp only [pick_rules, list_rules]
          try refine lg_mk ?_
          refine u_ld ?_
          refine lg_nil ?_
          refine at_seq ?_
          simp only [pick_rules, list_rules]
          try refine lg_mk ?_
          have hc := call_rule (E := (E_exO.at_ 93)) (f := 24) (sp := Spec.pure hasG) rfl
          have hs := @hasG.eq_1
          refine u_cp ?_
          have hc := call_rule (E := (E_exO.at_ 93)) (f := 24) (sp := Spec.pure hasG) rfl
          have hs := @hasG.eq_1
          refine u_cp ?_
          refine u_mv ?_
          refine g_mv ?_
          refine g_mv ?_
          refine g_mv ?_
          refine g_pt ?_
          refine g_ld ?_
          have hc := call_rule (E := (E_exO.at_ 93)) (f := 24) (sp := Spec.pure hasG) rfl
          have hs := @hasG.eq_1
          refine g_cp ?_
          refine u_pk ?_
          refine u_bn ?_
          refine lg_nil ?_
          refine at_nil ?_
          have hx := hx0
          refine h32 _ ?_; clear h32; try clear N32
          refine u_cond (fun hb35 => ?_) (fun hb35 => ?_)
          ·exact absurd hb35 (by simp)
          ·refine vc_skip ?_
           try simp only [k_rules]
           refine h31 _ ?_; clear h31; try clear N31
           refine u_reg ?_
           try refine lg_mk ?_
           refine u_mv ?_
           refine u_bn ?_
           refine u_mv ?_
           refine lg_nil ?_
           refine h27 _ ⟨i + 1, ?_, ?_, [], ?_⟩
           ·dsimp only
            omega
           ·dsimp only
            omega
           ·dsimp only
            refine ⟨by rfl, ?_, ?_⟩
            ·refine fin_ ?_
             exact cl_
            ·refine fin_ ?_
             exact cl_
         exact at_end
        exact at_end
       ·refine vc_exit ?_
        simp only [k_rules, Nat.reduceEqDiff, reduceIte, eq_self]
        refine h25 _ ?_; clear h25; try clear N25
        refine vc_seq_k fun N36 h36 => ?_
        refine u_reg ?_
        try refine lg_mk ?_
        refine u_mv ?_
        refine lg_nil ?_
        refine h36 _ ?_; clear h36; try clear N36
        refine vc_ret ?_
        try simp only [k_rules]
        refine fin2_ ?_
        (repeat' apply And.intro) <;> (first | (first | rfl | (simp; done) | (simp [*]; done) | (left; rfl)) | exact cl_)
 ·cases hg
end Go.Proofs.Ytjpkgmmmmcgmeaa
