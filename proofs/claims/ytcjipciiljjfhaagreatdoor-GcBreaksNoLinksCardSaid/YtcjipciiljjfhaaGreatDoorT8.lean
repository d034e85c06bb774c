/- Walks, printed by wip/gen/walk.py. -/
import Derived.Test.YtcjipciiljjfhaaGreatDoorT7
import Derived.Test.YtcjipciiljjfhaaGreatDoorV5
set_option linter.all false
set_option maxRecDepth 100000
set_option maxHeartbeats 4000000
namespace Go.Proofs.YtcjipciiljjfhaaGreatDoor
open Go Go.Vc Go.RowKit
theorem validR_meets : Meets Tryz.prog 26 (Spec.pure valG) := by
 refine meets_fun (E_valid.at_ 68) Tryz.func26 rfl rfl rfl ?_
 intro args p r hg hp
 unfold valG at hg
 split at hg
 ·rename_i xs
  simp only [Option.some.injEq, Prod.mk.injEq] at hg
  obtain ⟨rfl, rfl⟩ := hg
  obtain ⟨he, hl, hsm⟩ := hp
  generalize dO xs = S at *
  subst he
  have hT : (E_valid).X = T := rfl
  have hx0 := And.intro @rect_eO (And.intro @dI_rows (And.intro @dU_rows (And.intro @dec_t (And.intro @dec_f @Tryz.results26))))
  have hx := hx0
  refine ⟨by rfl, ?_⟩
  intro F W0 hnp hmk
  refine vc_seq_k fun N1 h1 => ?_
  refine u_reg ?_
  try refine lg_mk ?_
  refine u_bx ?_
  refine u_al ?_
  refine lg_nil ?_
  refine h1 _ ?_; clear h1; try clear N1
  refine vc_seq_k fun N2 h2 => ?_
  refine vc_seq_k fun N3 h3 => ?_
  refine u_reg ?_
  try refine lg_mk ?_
  refine u_pt ?_
  refine u_ld ?_
  refine u_ln ?_
  refine u_bn ?_
  refine lg_nil ?_
  refine h3 _ ?_; clear h3; try clear N3
  refine u_cond (fun hb4 => ?_) (fun hb4 => ?_)
  ·refine vc_seq_k fun N5 h5 => ?_
   refine u_reg ?_
   try refine lg_mk ?_
   have hc := call_rule (E := (E_valid.at_ 68)) (f := 28) (sp := Spec.pure faultG) rfl
   have hs := @faultG.eq_1
   refine u_cp ?_
   refine u_st ?_
   refine lg_nil ?_
   refine h5 _ ?_; clear h5; try clear N5
   refine vc_ret ?_
   try simp only [k_rules]
   have hr : stF S = (2, 0) := by unfold stF; rw [if_pos (by have := hb4; omega)]
   rw [hr]
   refine fin2_ ?_
   exact cl_
  ·refine vc_skip ?_
   try simp only [k_rules]
   refine h2 _ ?_; clear h2; try clear N2
   refine vc_seq_k fun N6 h6 => ?_
   refine vc_seq_k fun N7 h7 => ?_
   refine u_reg ?_
   try refine lg_mk ?_
   refine u_mv ?_
   refine lg_nil ?_
   refine h7 _ ?_; clear h7; try clear N7
   refine vc_block ?_
   refine vc_loop_mk (σ := Nat) (fun s => (fun i => i ≤ S.length ∧ ∀ j, j < i → soF S j = 0) s)
    (fun s => (fun i => [(1, .ptr 0 0 0), (2, .ptr 1 0 0), (3, .d (.int .i64 (i : Nat)))]) s)
    (fun s => (fun i => [some (.one 24 [.d (.sl (rows eO S))]), some (.one 32 [.d (.int .i64 0), .d (.int .i64 0)])]) s) (fun s => (fun i => S.length - i) s) hnp 0 ?_ [some 0, some 1] ?_ ?_
   ·dsimp only
    exact ⟨by omega, fun j hj => by omega⟩
   ·dsimp only
    refine ⟨by rfl, ?_, ?_⟩
    ·refine fin_ ?_
     exact cl_
    ·refine fin_ ?_
     exact cl_
   ·rintro i hinv N8 h8
    dsimp only at hinv ⊢
    obtain ⟨i1, i2⟩ := hinv
    refine vc_seq_k fun N9 h9 => ?_
    refine vc_seq_k fun N10 h10 => ?_
    refine u_reg ?_
    try refine lg_mk ?_
    refine u_mv ?_
    refine u_pt ?_
    refine u_ld ?_
    refine u_ln ?_
    refine u_bn ?_
    refine lg_nil ?_
    refine h10 _ ?_; clear h10; try clear N10
    refine u_cond (fun hb11 => ?_) (fun hb11 => ?_)
    ·obtain ⟨x, hxe⟩ := getE (l := S) (i := i) (by omega)
     have hxd : S.getD i default = x := getD_at hxe
     have hxo := hsm x (mem_at hxe)
     obtain ⟨d, o⟩ := x
     obtain ⟨k, l, u⟩ := o
     refine vc_skip ?_
     try simp only [k_rules]
     refine h9 _ ?_; clear h9; try clear N9
     refine vc_seq_k fun N12 h12 => ?_
     refine vc_block ?_
     refine vc_seq_k fun N13 h13 => ?_
     refine vc_seq_k fun N14 h14 => ?_
     have hx := And.intro @hxe (And.intro @eO.eq_1 hx0)
     refine u_reg ?_
     try refine lg_mk ?_
     refine u_pt ?_
     refine u_ld ?_
     refine u_mv ?_
     refine u_pt ?_
     refine u_pt ?_
     refine u_ld ?_
     have hc := call_rule (E := (E_valid.at_ 68)) (f := 40) (sp := Spec.pure objFG) rfl
     have hs := @objFG.eq_1
     refine u_cp (hq := by (first | (exact hxo) | exact sd_)) ?_
     refine u_al ?_
     refine u_st ?_
     refine lg_nil ?_
     have hx := hx0
     refine h14 _ ?_; clear h14; try clear N14
     refine vc_seq_k fun N15 h15 => ?_
     rcases objF_or2 ⟨k, l, u⟩ with ⟨hvx, hov⟩ | hvx
     ·have hz1 : (objF ⟨k, l, u⟩).1 = 0 := by rw [hvx]
      have hz2 : (objF ⟨k, l, u⟩).2 = 0 := by rw [hvx]
      refine u_reg ?_
      try refine lg_mk ?_
      refine u_pt ?_
      refine u_ld ?_
      refine u_bn ?_
      refine lg_nil ?_
      refine h15 _ ?_; clear h15; try clear N15
      refine u_cond (fun hb16 => ?_) (fun hb16 => ?_)
      ·exact absurd hz1 (by simpa using hb16)
      ·refine vc_skip ?_
       try simp only [k_rules]
       refine h13 _ ?_; clear h13; try clear N13
       refine vc_seq_k fun N17 h17 => ?_
       refine vc_seq_k fun N18 h18 => ?_
       have hx := And.intro @hxe (And.intro @eO.eq_1 hx0)
       refine vc_regT [] (.seq [0, 1, 2, 3, 4, 5, 9] (.alt 6 (.seq [7, 8, 10, 11, 12, 13] .nil) (.alt 7 (.alt 6 (.seq [8, 10, 11, 12, 13] .nil) (.alt 8 (.alt 6 (.seq [10, 11, 12, 13] .nil) (.alt 10 (.alt 6 (.seq [11, 12, 13] .nil) (.alt 11 (.alt 6 (.seq [12, 13] .nil) (.alt 12 (.seq [6, 13] .nil) .nil)) .nil)) .nil)) .nil)) .nil))) hmix (by kernel_rfl) ?_
       refine at_seq ?_
       simp only [pick_rules, list_rules]
       try refine lg_mk ?_
       refine u_pt ?_
       refine u_ld ?_
       refine u_mv ?_
       refine u_pt ?_
       refine u_pt ?_
       refine u_ld ?_
       refine u_mv ?_
       refine lg_nil ?_
       refine at_alt ?_ ?_
       ·simp only [pick_rules, list_rules]
        try refine lg_mk ?_
        have hc := call_rule (E := (E_valid.at_ 68)) (f := 41) (sp := Spec.pure objDG) rfl
        have hs := @objDG.eq_1
        refine u_cp (hq := by (first | (exact hov) | exact sd_)) ?_
        refine lg_nil ?_
        refine at_seq ?_
        simp only [pick_rules, list_rules]
        try refine lg_mk ?_
        refine u_pt ?_
        refine u_ld ?_
        refine u_pt ?_
        refine u_pt ?_
        refine u_ld ?_
        refine u_bn ?_
        refine lg_nil ?_
        refine at_nil ?_
        have hx := hx0
        refine h18 _ ?_; clear h18; try clear N18
        refine u_cond (fun hb19 => ?_) (fun hb19 => ?_)
        ·refine vc_seq_k fun N20 h20 => ?_
         refine u_reg ?_
         try refine lg_mk ?_
         refine u_mv ?_
         have hc := call_rule (E := (E_valid.at_ 68)) (f := 28) (sp := Spec.pure faultG) rfl
         have hs := @faultG.eq_1
         refine u_cp ?_
         refine u_st ?_
         refine lg_nil ?_
         refine h20 _ ?_; clear h20; try clear N20
         refine vc_ret ?_
         try simp only [k_rules]
         have hf : soF S i = 18 := by
          unfold soF; rw [hxd]; dsimp only
          rw [if_neg (by rw [hz1]; simp), if_pos (by simpa using hb19)]
         have hr : stF S = (18, (i : Int)) := by unfold stF; rw [if_neg (by omega), firstF_at (i := i) (by rw [hf]; first | decide | exact hz1) i2 (by omega), hf]; rfl
         rw [hr]
         refine fin2_ ?_
         exact cl_
        ·refine vc_skip ?_
         try simp only [k_rules]
         refine h17 _ ?_; clear h17; try clear N17
         refine vc_seq_k fun N21 h21 => ?_
         rcases Nat.eq_zero_or_pos i with hi0 | hi0
         ·have hye := hxe
          have hgt : decide ((0 : Int) < (i : Int)) = false := decide_eq_false (by omega)
          have hpm := hxe
          have hx := And.intro @hxe (And.intro @hye (And.intro @hgt (And.intro @hpm (And.intro @eO.eq_1 hx0))))
          refine u_reg ?_
          try refine lg_mk ?_
          refine u_mv ?_
          refine u_bn ?_
          refine u_mv ?_
          refine g_pt ?_
          refine g_ld ?_
          refine g_mv ?_
          refine g_pt ?_
          refine g_pt ?_
          refine g_ld ?_
          refine g_pt ?_
          refine g_ld ?_
          refine g_mv ?_
          refine g_bn ?_
          refine g_pt ?_
          refine g_pt ?_
          refine g_ld ?_
          refine g_bn ?_
          refine u_pk ?_
          refine lg_nil ?_
          have hx := hx0
          refine h21 _ ?_; clear h21; try clear N21
          refine u_cond (fun hb22 => ?_) (fun hb22 => ?_)
          ·first | omega | exact absurd trivial hb22 | contradiction | (simp_all; done)
          ·refine vc_skip ?_
           try simp only [k_rules]
           refine h12 _ ?_; clear h12; try clear N12
           refine u_reg ?_
           try refine lg_mk ?_
           refine u_mv ?_
           refine u_bn ?_
           refine u_mv ?_
           refine lg_nil ?_
           refine h8 _ ⟨i + 1, ?_, ?_, [some 0, some 1], ?_⟩
           ·dsimp only
            exact ⟨by omega, lt_succO i2 (by unfold soF; rw [hxd]; dsimp only; rw [if_neg (by rw [hz1]; simp), if_neg (by have := hb19; simpa using this)]; first | (rw [if_neg (by omega)]; done) | (rw [hyd, if_neg (by have := hb22; (try simp at this); omega)]; done))⟩
           ·dsimp only
            omega
           ·dsimp only
            refine ⟨by rfl, ?_, ?_⟩
            ·refine fin_ ?_
             exact cl_
            ·refine fin_ ?_
             exact cl_
         ·obtain ⟨y, hye⟩ := getE (l := S) (i := i - 1) (by omega)
          have hpm : ((i : Int) - 1).toNat = i - 1 := by omega
          have hgt : decide ((0 : Int) < (i : Int)) = true := decide_eq_true (by omega)
          have hyd : S.getD (i - 1) default = y := getD_at hye
          have hx := And.intro @hxe (And.intro @hye (And.intro @hgt (And.intro @hpm (And.intro @eO.eq_1 hx0))))
          refine u_reg ?_
          try refine lg_mk ?_
          refine u_mv ?_
          refine u_bn ?_
          refine u_mv ?_
          refine g_pt ?_
          refine g_ld ?_
          refine g_mv ?_
          refine g_pt ?_
          refine g_pt ?_
          refine g_ld ?_
          refine g_pt ?_
          refine g_ld ?_
          refine g_mv ?_
          refine g_bn ?_
          refine g_pt ?_
          refine g_pt ?_
          refine g_ld ?_
          refine g_bn ?_
          refine u_pk ?_
          refine lg_nil ?_
          have hx := hx0
          refine h21 _ ?_; clear h21; try clear N21
          refine u_cond (fun hb23 => ?_) (fun hb23 => ?_)
          ·refine vc_seq_k fun N24 h24 => ?_
           refine u_reg ?_
           try refine lg_mk ?_
           refine u_mv ?_
           have hc := call_rule (E := (E_valid.at_ 68)) (f := 28) (sp := Spec.pure faultG) rfl
           have hs := @faultG.eq_1
           refine u_cp ?_
           refine u_st ?_
           refine lg_nil ?_
           refine h24 _ ?_; clear h24; try clear N24
           refine vc_ret ?_
           try simp only [k_rules]
           have hf : soF S i = 5 := by
            unfold soF; rw [hxd]; dsimp only
            rw [if_neg (by rw [hz1]; simp), if_neg (by have := hb19; simpa using this), hyd, if_pos ⟨hi0, by have := hb23; (try simp at this); omega⟩]
           have hr : stF S = (5, (i : Int)) := by unfold stF; rw [if_neg (by omega), firstF_at (i := i) (by rw [hf]; first | decide | exact hz1) i2 (by omega), hf]; rfl
           rw [hr]
           refine fin2_ ?_
           exact cl_
          ·refine vc_skip ?_
           try simp only [k_rules]
           refine h12 _ ?_; clear h12; try clear N12
           refine u_reg ?_
           try refine lg_mk ?_
           refine u_mv ?_
           refine u_bn ?_
           refine u_mv ?_
           refine lg_nil ?_
           refine h8 _ ⟨i + 1, ?_, ?_, [some 0, some 1], ?_⟩
           ·dsimp only
            exact ⟨by omega, lt_succO i2 (by unfold soF; rw [hxd]; dsimp only; rw [if_neg (by rw [hz1]; simp), if_neg (by have := hb19; simpa using this)]; first | (rw [if_neg (by omega)]; done) | (rw [hyd, if_neg (by have := hb23; (try simp at this); omega)]; done))⟩
           ·dsimp only
            omega
           ·dsimp only
            refine ⟨by rfl, ?_, ?_⟩
            ·refine fin_ ?_
             exact cl_
            ·refine fin_ ?_
             exact cl_
       refine at_alt ?_ ?_
       ·simp only [pick_rules, list_rules]
        try refine lg_mk ?_
        refine u_pt ?_
        refine lg_nil ?_
        refine at_alt ?_ ?_
        ·simp only [pick_rules, list_rules]
         try refine lg_mk ?_
         have hc := call_rule (E := (E_valid.at_ 68)) (f := 41) (sp := Spec.pure objDG) rfl
         have hs := @objDG.eq_1
         refine u_cp (hq := by (first | (exact hov) | exact sd_)) ?_
         refine lg_nil ?_
         refine at_seq ?_
         simp only [pick_rules, list_rules]
         try refine lg_mk ?_
         refine u_ld ?_
         refine u_pt ?_
         refine u_pt ?_
         refine u_ld ?_
         refine u_bn ?_
         refine lg_nil ?_
         refine at_nil ?_
         have hx := hx0
         refine h18 _ ?_; clear h18; try clear N18
         refine u_cond (fun hb25 => ?_) (fun hb25 => ?_)
         ·refine vc_seq_k fun N26 h26 => ?_
          refine u_reg ?_
          try refine lg_mk ?_
          refine u_mv ?_
          have hc := call_rule (E := (E_valid.at_ 68)) (f := 28) (sp := Spec.pure faultG) rfl
          have hs := @faultG.eq_1
          refine u_cp ?_
          refine u_st ?_
          refine lg_nil ?_
          refine h26 _ ?_; clear h26; try clear N26
          refine vc_ret ?_
          try simp only [k_rules]
          have hf : soF S i = 18 := by
           unfold soF; rw [hxd]; dsimp only
           rw [if_neg (by rw [hz1]; simp), if_pos (by simpa using hb25)]
          have hr : stF S = (18, (i : Int)) := by unfold stF; rw [if_neg (by omega), firstF_at (i := i) (by rw [hf]; first | decide | exact hz1) i2 (by omega), hf]; rfl
          rw [hr]
          refine fin2_ ?_
          exact cl_
         ·refine vc_skip ?_
          try simp only [k_rules]
          refine h17 _ ?_; clear h17; try clear N17
          refine vc_seq_k fun N27 h27 => ?_
          rcases Nat.eq_zero_or_pos i with hi0 | hi0
          ·have hye := hxe
           have hgt : decide ((0 : Int) < (i : Int)) = false := decide_eq_false (by omega)
           have hpm := hxe
           have hx := And.intro @hxe (And.intro @hye (And.intro @hgt (And.intro @hpm (And.intro @eO.eq_1 hx0))))
           refine u_reg ?_
           try refine lg_mk ?_
           refine u_mv ?_
           refine u_bn ?_
           refine u_mv ?_
           refine g_pt ?_
           refine g_ld ?_
           refine g_mv ?_
           refine g_pt ?_
           refine g_pt ?_
           refine g_ld ?_
           refine g_pt ?_
           refine g_ld ?_
           refine g_mv ?_
           refine g_bn ?_
           refine g_pt ?_
           refine g_pt ?_
           refine g_ld ?_
           refine g_bn ?_
           refine u_pk ?_
           refine lg_nil ?_
           have hx := hx0
           refine h27 _ ?_; clear h27; try clear N27
           refine u_cond (fun hb28 => ?_) (fun hb28 => ?_)
           ·first | omega | exact absurd trivial hb28 | contradiction | (simp_all; done)
           ·refine vc_skip ?_
            try simp only [k_rules]
            refine h12 _ ?_; clear h12; try clear N12
            refine u_reg ?_
            try refine lg_mk ?_
            refine u_mv ?_
            refine u_bn ?_
            refine u_mv ?_
            refine lg_nil ?_
            refine h8 _ ⟨i + 1, ?_, ?_, [some 0, some 1], ?_⟩
            ·dsimp only
             exact ⟨by omega, lt_succO i2 (by unfold soF; rw [hxd]; dsimp only; rw [if_neg (by rw [hz1]; simp), if_neg (by have := hb25; simpa using this)]; first | (rw [if_neg (by omega)]; done) | (rw [hyd, if_neg (by have := hb28; (try simp at this); omega)]; done))⟩
            ·dsimp only
             omega
            ·dsimp only
             refine ⟨by rfl, ?_, ?_⟩
             ·refine fin_ ?_
              exact cl_
             ·refine fin_ ?_
              exact cl_
          ·obtain ⟨y, hye⟩ := getE (l := S) (i := i - 1) (by omega)
           have hpm : ((i : Int) - 1).toNat = i - 1 := by omega
           have hgt : decide ((0 : Int) < (i : Int)) = true := decide_eq_true (by omega)
           have hyd : S.getD (i - 1) default = y := getD_at hye
           have hx := And.intro @hxe (And.intro @hye (And.intro @hgt (And.intro @hpm (And.intro @eO.eq_1 hx0))))
           refine u_reg ?_
           try refine lg_mk ?_
           refine u_mv ?_
           refine u_bn ?_
           refine u_mv ?_
           refine g_pt ?_
           refine g_ld ?_
           refine g_mv ?_
           refine g_pt ?_
           refine g_pt ?_
           refine g_ld ?_
           refine g_pt ?_
           refine g_ld ?_
           refine g_mv ?_
           refine g_bn ?_
           refine g_pt ?_
           refine g_pt ?_
           refine g_ld ?_
           refine g_bn ?_
           refine u_pk ?_
           refine lg_nil ?_
           have hx := hx0
           refine h27 _ ?_; clear h27; try clear N27
           refine u_cond (fun hb29 => ?_) (fun hb29 => ?_)
           ·refine vc_seq_k fun N30 h30 => ?_
            refine u_reg ?_
            try refine lg_mk ?_
            refine u_mv ?_
            have hc := call_rule (E := (E_valid.at_ 68)) (f := 28) (sp := Spec.pure faultG) rfl
            have hs := @faultG.eq_1
            refine u_cp ?_
            refine u_st ?_
            refine lg_nil ?_
            refine h30 _ ?_; clear h30; try clear N30
            refine vc_ret ?_
            try simp only [k_rules]
            have hf : soF S i = 5 := by
             unfold soF; rw [hxd]; dsimp only
             rw [if_neg (by rw [hz1]; simp), if_neg (by have := hb25; simpa using this), hyd, if_pos ⟨hi0, by have := hb29; (try simp at this); omega⟩]
            have hr : stF S = (5, (i : Int)) := by unfold stF; rw [if_neg (by omega), firstF_at (i := i) (by rw [hf]; first | decide | exact hz1) i2 (by omega), hf]; rfl
            rw [hr]
            refine fin2_ ?_
            exact cl_
           ·refine vc_skip ?_
            try simp only [k_rules]
            refine h12 _ ?_; clear h12; try clear N12
            refine u_reg ?_
            try refine lg_mk ?_
            refine u_mv ?_
            refine u_bn ?_
            refine u_mv ?_
            refine lg_nil ?_
            refine h8 _ ⟨i + 1, ?_, ?_, [some 0, some 1], ?_⟩
            ·dsimp only
             exact ⟨by omega, lt_succO i2 (by unfold soF; rw [hxd]; dsimp only; rw [if_neg (by rw [hz1]; simp), if_neg (by have := hb25; simpa using this)]; first | (rw [if_neg (by omega)]; done) | (rw [hyd, if_neg (by have := hb29; (try simp at this); omega)]; done))⟩
            ·dsimp only
             omega
            ·dsimp only
             refine ⟨by rfl, ?_, ?_⟩
             ·refine fin_ ?_
              exact cl_
             ·refine fin_ ?_
              exact cl_
        refine at_alt ?_ ?_
        ·simp only [pick_rules, list_rules]
         try refine lg_mk ?_
         refine u_ld ?_
         refine lg_nil ?_
         refine at_alt ?_ ?_
         ·simp only [pick_rules, list_rules]
          try refine lg_mk ?_
          have hc := call_rule (E := (E_valid.at_ 68)) (f := 41) (sp := Spec.pure objDG) rfl
          have hs := @objDG.eq_1
          refine u_cp (hq := by (first | (exact hov) | exact sd_)) ?_
          refine lg_nil ?_
          refine at_seq ?_
          simp only [pick_rules, list_rules]
          try refine lg_mk ?_
          refine u_pt ?_
          refine u_pt ?_
          refine u_ld ?_
          refine u_bn ?_
          refine lg_nil ?_
          refine at_nil ?_
          have hx := hx0
          refine h18 _ ?_; clear h18; try clear N18
          refine u_cond (fun hb31 => ?_) (fun hb31 => ?_)
          ·refine vc_seq_k fun N32 h32 => ?_
           refine u_reg ?_
           try refine lg_mk ?_
           refine u_mv ?_
           have hc := call_rule (E := (E_valid.at_ 68)) (f := 28) (sp := Spec.pure faultG) rfl
           have hs := @faultG.eq_1
           refine u_cp ?_
           refine u_st ?_
           refine lg_nil ?_
           refine h32 _ ?_; clear h32; try clear N32
           refine vc_ret ?_
           try simp only [k_rules]
           have hf : soF S i = 18 := by
            unfold soF; rw [hxd]; dsimp only
            rw [if_neg (by rw [hz1]; simp), if_pos (by simpa using hb31)]
           have hr : stF S = (18, (i : Int)) := by unfold stF; rw [if_neg (by omega), firstF_at (i := i) (by rw [hf]; first | decide | exact hz1) i2 (by omega), hf]; rfl
           rw [hr]
           refine fin2_ ?_
           exact cl_
          ·refine vc_skip ?_
           try simp only [k_rules]
           refine h17 _ ?_; clear h17; try clear N17
           refine vc_seq_k fun N33 h33 => ?_
           rcases Nat.eq_zero_or_pos i with hi0 | hi0
           ·have hye := hxe
            have hgt : decide ((0 : Int) < (i : Int)) = false := decide_eq_false (by omega)
            have hpm := hxe
            have hx := And.intro @hxe (And.intro @hye (And.intro @hgt (And.intro @hpm (And.intro @eO.eq_1 hx0))))
            refine u_reg ?_
            try refine lg_mk ?_
            refine u_mv ?_
            refine u_bn ?_
            refine u_mv ?_
            refine g_pt ?_
            refine g_ld ?_
            refine g_mv ?_
            refine g_pt ?_
            refine g_pt ?_
            refine g_ld ?_
            refine g_pt ?_
            refine g_ld ?_
            refine g_mv ?_
            refine g_bn ?_
            refine g_pt ?_
            refine g_pt ?_
            refine g_ld ?_
            refine g_bn ?_
            refine u_pk ?_
            refine lg_nil ?_
            have hx := hx0
            refine h33 _ ?_; clear h33; try clear N33
            refine u_cond (fun hb34 => ?_) (fun hb34 => ?_)
            ·first | omega | exact absurd trivial hb34 | contradiction | (simp_all; done)
            ·refine vc_skip ?_
             try simp only [k_rules]
             refine h12 _ ?_; clear h12; try clear N12
             refine u_reg ?_
             try refine lg_mk ?_
             refine u_mv ?_
             refine u_bn ?_
             refine u_mv ?_
             refine lg_nil ?_
             refine h8 _ ⟨i + 1, ?_, ?_, [some 0, some 1], ?_⟩
             ·dsimp only
              exact ⟨by omega, lt_succO i2 (by unfold soF; rw [hxd]; dsimp only; rw [if_neg (by rw [hz1]; simp), if_neg (by have := hb31; simpa using this)]; first | (rw [if_neg (by omega)]; done) | (rw [hyd, if_neg (by have := hb34; (try simp at this); omega)]; done))⟩
             ·dsimp only
              omega
             ·dsimp only
              refine ⟨by rfl, ?_, ?_⟩
              ·refine fin_ ?_
               exact cl_
              ·refine fin_ ?_
               exact cl_
           ·obtain ⟨y, hye⟩ := getE (l := S) (i := i - 1) (by omega)
            have hpm : ((i : Int) - 1).toNat = i - 1 := by omega
            have hgt : decide ((0 : Int) < (i : Int)) = true := decide_eq_true (by omega)
            have hyd : S.getD (i - 1) default = y := getD_at hye
            have hx := And.intro @hxe (And.intro @hye (And.intro @hgt (And.intro @hpm (And.intro @eO.eq_1 hx0))))
            refine u_reg ?_
            try refine lg_mk ?_
            refine u_mv ?_
            refine u_bn ?_
            refine u_mv ?_
            refine g_pt ?_
            refine g_ld ?_
            refine g_mv ?_
            refine g_pt ?_
            refine g_pt ?_
            refine g_ld ?_
            refine g_pt ?_
            refine g_ld ?_
            refine g_mv ?_
            refine g_bn ?_
            refine g_pt ?_
            refine g_pt ?_
            refine g_ld ?_
            refine g_bn ?_
            refine u_pk ?_
            refine lg_nil ?_
            have hx := hx0
            refine h33 _ ?_; clear h33; try clear N33
            refine u_cond (fun hb35 => ?_) (fun hb35 => ?_)
            ·refine vc_seq_k fun N36 h36 => ?_
             refine u_reg ?_
             try refine lg_mk ?_
             refine u_mv ?_
             have hc := call_rule (E := (E_valid.at_ 68)) (f := 28) (sp := Spec.pure faultG) rfl
             have hs := @faultG.eq_1
             refine u_cp ?_
             refine u_st ?_
             refine lg_nil ?_
             refine h36 _ ?_; clear h36; try clear N36
             refine vc_ret ?_
             try simp only [k_rules]
             have hf : soF S i = 5 := by
              unfold soF; rw [hxd]; dsimp only
              rw [if_neg (by rw [hz1]; simp), if_neg (by have := hb31; simpa using this), hyd, if_pos ⟨hi0, by have := hb35; (try simp at this); omega⟩]
             have hr : stF S = (5, (i : Int)) := by unfold stF; rw [if_neg (by omega), firstF_at (i := i) (by rw [hf]; first | decide | exact hz1) i2 (by omega), hf]; rfl
             rw [hr]
             refine fin2_ ?_
             exact cl_
            ·refine vc_skip ?_
             try simp only [k_rules]
             refine h12 _ ?_; clear h12; try clear N12
             refine u_reg ?_
             try refine lg_mk ?_
             refine u_mv ?_
             refine u_bn ?_
             refine u_mv ?_
             refine lg_nil ?_
             refine h8 _ ⟨i + 1, ?_, ?_, [some 0, some 1], ?_⟩
             ·dsimp only
              exact ⟨by omega, lt_succO i2 (by unfold soF; rw [hxd]; dsimp only; rw [if_neg (by rw [hz1]; simp), if_neg (by have := hb31; simpa using this)]; first | (rw [if_neg (by omega)]; done) | (rw [hyd, if_neg (by have := hb35; (try simp at this); omega)]; done))⟩
             ·dsimp only
              omega
             ·dsimp only
              refine ⟨by rfl, ?_, ?_⟩
              ·refine fin_ ?_
               exact cl_
              ·refine fin_ ?_
               exact cl_
         refine at_alt ?_ ?_
         ·simp only [pick_rules, list_rules]
          try refine lg_mk ?_
          refine u_pt ?_
          refine lg_nil ?_
          refine at_alt ?_ ?_
          ·simp only [pick_rules, list_rules]
           try refine lg_mk ?_
           have hc := call_rule (E := (E_valid.at_ 68)) (f := 41) (sp := Spec.pure objDG) rfl
           have hs := @objDG.eq_1
           refine u_cp (hq := by (first | (exact hov) | exact sd_)) ?_
           refine lg_nil ?_
           refine at_seq ?_
           simp only [pick_rules, list_rules]
           try refine lg_mk ?_
           refine u_pt ?_
           refine u_ld ?_
           refine u_bn ?_
           refine lg_nil ?_
           refine at_nil ?_
           have hx := hx0
           refine h18 _ ?_; clear h18; try clear N18
           refine u_cond (fun hb37 => ?_) (fun hb37 => ?_)
           ·refine vc_seq_k fun N38 h38 => ?_
            refine u_reg ?_
            try refine lg_mk ?_
            refine u_mv ?_
            have hc := call_rule (E := (E_valid.at_ 68)) (f := 28) (sp := Spec.pure faultG) rfl
            have hs := @faultG.eq_1
            refine u_cp ?_
            refine u_st ?_
            refine lg_nil ?_
            refine h38 _ ?_; clear h38; try clear N38
            refine vc_ret ?_
            try simp only [k_rules]
            have hf : soF S i = 18 := by
             unfold soF; rw [hxd]; dsimp only
             rw [if_neg (by rw [hz1]; simp), if_pos (by simpa using hb37)]
            have hr : stF S = (18, (i : Int)) := by unfold stF; rw [if_neg (by omega), firstF_at (i := i) (by rw [hf]; first | decide | exact hz1) i2 (by omega), hf]; rfl
            rw [hr]
            refine fin2_ ?_
            exact cl_
           ·refine vc_skip ?_
            try simp only [k_rules]
            refine h17 _ ?_; clear h17; try clear N17
            refine vc_seq_k fun N39 h39 => ?_
            rcases Nat.eq_zero_or_pos i with hi0 | hi0
            ·have hye := hxe
             have hgt : decide ((0 : Int) < (i : Int)) = false := decide_eq_false (by omega)
             have hpm := hxe
             have hx := And.intro @hxe (And.intro @hye (And.intro @hgt (And.intro @hpm (And.intro @eO.eq_1 hx0))))
             refine u_reg ?_
             try refine lg_mk ?_
             refine u_mv ?_
             refine u_bn ?_
             refine u_mv ?_
             refine g_pt ?_
             refine g_ld ?_
             refine g_mv ?_
             refine g_pt ?_
             refine g_pt ?_
             refine g_ld ?_
             refine g_pt ?_
             refine g_ld ?_
             refine g_mv ?_
             refine g_bn ?_
             refine g_pt ?_
             refine g_pt ?_
             refine g_ld ?_
             refine g_bn ?_
             refine u_pk ?_
             refine lg_nil ?_
             have hx := hx0
             refine h39 _ ?_; clear h39; try clear N39
             refine u_cond (fun hb40 => ?_) (fun hb40 => ?_)
             ·first | omega | exact absurd trivial hb40 | contradiction | (simp_all; done)
             ·refine vc_skip ?_
              try simp only [k_rules]
              refine h12 _ ?_; clear h12; try clear N12
              refine u_reg ?_
              try refine lg_mk ?_
              refine u_mv ?_
              refine u_bn ?_
              refine u_mv ?_
              refine lg_nil ?_
              refine h8 _ ⟨i + 1, ?_, ?_, [some 0, some 1], ?_⟩
              ·dsimp only
               exact ⟨by omega, lt_succO i2 (by unfold soF; rw [hxd]; dsimp only; rw [if_neg (by rw [hz1]; simp), if_neg (by have := hb37; simpa using this)]; first | (rw [if_neg (by omega)]; done) | (rw [hyd, if_neg (by have := hb40; (try simp at this); omega)]; done))⟩
              ·dsimp only
               omega
              ·dsimp only
               refine ⟨by rfl, ?_, ?_⟩
               ·refine fin_ ?_
                exact cl_
               ·refine fin_ ?_
                exact cl_
            ·obtain ⟨y, hye⟩ := getE (l := S) (i := i - 1) (by omega)
             have hpm : ((i : Int) - 1).toNat = i - 1 := by omega
             have hgt : decide ((0 : Int) < (i : Int)) = true := decide_eq_true (by omega)
             have hyd : S.getD (i - 1) default = y := getD_at hye
             have hx := And.intro @hxe (And.intro @hye (And.intro @hgt (And.intro @hpm (And.intro @eO.eq_1 hx0))))
             refine u_reg ?_
             try refine lg_mk ?_
             refine u_mv ?_
             refine u_bn ?_
             refine u_mv ?_
             refine g_pt ?_
             refine g_ld ?_
             refine g_mv ?_
             refine g_pt ?_
             refine g_pt ?_
             refine g_ld ?_
             refine g_pt ?_
             refine g_ld ?_
             refine g_mv ?_
             refine g_bn ?_
             refine g_pt ?_
             refine g_pt ?_
             refine g_ld ?_
             refine g_bn ?_
             refine u_pk ?_
             refine lg_nil ?_
             have hx := hx0
             refine h39 _ ?_; clear h39; try clear N39
             refine u_cond (fun hb41 => ?_) (fun hb41 => ?_)
             ·refine vc_seq_k fun N42 h42 => ?_
              refine u_reg ?_
              try refine lg_mk ?_
              refine u_mv ?_
              have hc := call_rule (E := (E_valid.at_ 68)) (f := 28) (sp := Spec.pure faultG) rfl
              have hs := @faultG.eq_1
              refine u_cp ?_
              refine u_st ?_
              refine lg_nil ?_
              refine h42 _ ?_; clear h42; try clear N42
              refine vc_ret ?_
              try simp only [k_rules]
              have hf : soF S i = 5 := by
               unfold soF; rw [hxd]; dsimp only
               rw [if_neg (by rw [hz1]; simp), if_neg (by have := hb37; simpa using this), hyd, if_pos ⟨hi0, by have := hb41; (try simp at this); omega⟩]
              have hr : stF S = (5, (i : Int)) := by unfold stF; rw [if_neg (by omega), firstF_at (i := i) (by rw [hf]; first | decide | exact hz1) i2 (by omega), hf]; rfl
              rw [hr]
              refine fin2_ ?_
              exact cl_
             ·refine vc_skip ?_
              try simp only [k_rules]
              refine h12 _ ?_; clear h12; try clear N12
              refine u_reg ?_
              try refine lg_mk ?_
              refine u_mv ?_
              refine u_bn ?_
              refine u_mv ?_
              refine lg_nil ?_
              refine h8 _ ⟨i + 1, ?_, ?_, [some 0, some 1], ?_⟩
              ·dsimp only
               exact ⟨by omega, lt_succO i2 (by unfold soF; rw [hxd]; dsimp only; rw [if_neg (by rw [hz1]; simp), if_neg (by have := hb37; simpa using this)]; first | (rw [if_neg (by omega)]; done) | (rw [hyd, if_neg (by have := hb41; (try simp at this); omega)]; done))⟩
              ·dsimp only
               omega
              ·dsimp only
               refine ⟨by rfl, ?_, ?_⟩
               ·refine fin_ ?_
                exact cl_
               ·refine fin_ ?_
                exact cl_
          refine at_alt ?_ ?_
          ·simp only [pick_rules, list_rules]
           try refine lg_mk ?_
           refine u_pt ?_
           refine lg_nil ?_
           refine at_alt ?_ ?_
           ·simp only [pick_rules, list_rules]
            try refine lg_mk ?_
            have hc := call_rule (E := (E_valid.at_ 68)) (f := 41) (sp := Spec.pure objDG) rfl
            have hs := @objDG.eq_1
            refine u_cp (hq := by (first | (exact hov) | exact sd_)) ?_
            refine lg_nil ?_
            refine at_seq ?_
            simp only [pick_rules, list_rules]
            try refine lg_mk ?_
            refine u_ld ?_
            refine u_bn ?_
            refine lg_nil ?_
            refine at_nil ?_
            have hx := hx0
            refine h18 _ ?_; clear h18; try clear N18
            refine u_cond (fun hb43 => ?_) (fun hb43 => ?_)
            ·refine vc_seq_k fun N44 h44 => ?_
             refine u_reg ?_
             try refine lg_mk ?_
             refine u_mv ?_
             have hc := call_rule (E := (E_valid.at_ 68)) (f := 28) (sp := Spec.pure faultG) rfl
             have hs := @faultG.eq_1
             refine u_cp ?_
             refine u_st ?_
             refine lg_nil ?_
             refine h44 _ ?_; clear h44; try clear N44
             refine vc_ret ?_
             try simp only [k_rules]
             have hf : soF S i = 18 := by
              unfold soF; rw [hxd]; dsimp only
              rw [if_neg (by rw [hz1]; simp), if_pos (by simpa using hb43)]
             have hr : stF S = (18, (i : Int)) := by unfold stF; rw [if_neg (by omega), firstF_at (i := i) (by rw [hf]; first | decide | exact hz1) i2 (by omega), hf]; rfl
             rw [hr]
             refine fin2_ ?_
             exact cl_
            ·refine vc_skip ?_
             try simp only [k_rules]
             refine h17 _ ?_; clear h17; try clear N17
             refine vc_seq_k fun N45 h45 => ?_
             rcases Nat.eq_zero_or_pos i with hi0 | hi0
             ·have hye := hxe
              have hgt : decide ((0 : Int) < (i : Int)) = false := decide_eq_false (by omega)
              have hpm := hxe
              have hx := And.intro @hxe (And.intro @hye (And.intro @hgt (And.intro @hpm (And.intro @eO.eq_1 hx0))))
              refine u_reg ?_
              try refine lg_mk ?_
              refine u_mv ?_
              refine u_bn ?_
              refine u_mv ?_
              refine g_pt ?_
              refine g_ld ?_
              refine g_mv ?_
              refine g_pt ?_
              refine g_pt ?_
              refine g_ld ?_
              refine g_pt ?_
              refine g_ld ?_
              refine g_mv ?_
              refine g_bn ?_
              refine g_pt ?_
              refine g_pt ?_
              refine g_ld ?_
              refine g_bn ?_
              refine u_pk ?_
              refine lg_nil ?_
              have hx := hx0
              refine h45 _ ?_; clear h45; try clear N45
              refine u_cond (fun hb46 => ?_) (fun hb46 => ?_)
              ·first | omega | exact absurd trivial hb46 | contradiction | (simp_all; done)
              ·refine vc_skip ?_
               try simp only [k_rules]
               refine h12 _ ?_; clear h12; try clear N12
               refine u_reg ?_
               try refine lg_mk ?_
               refine u_mv ?_
               refine u_bn ?_
               refine u_mv ?_
               refine lg_nil ?_
               refine h8 _ ⟨i + 1, ?_, ?_, [some 0, some 1], ?_⟩
               ·dsimp only
                exact ⟨by omega, lt_succO i2 (by unfold soF; rw [hxd]; dsimp only; rw [if_neg (by rw [hz1]; simp), if_neg (by have := hb43; simpa using this)]; first | (rw [if_neg (by omega)]; done) | (rw [hyd, if_neg (by have := hb46; (try simp at this); omega)]; done))⟩
               ·dsimp only
                omega
               ·dsimp only
                refine ⟨by rfl, ?_, ?_⟩
                ·refine fin_ ?_
                 exact cl_
                ·refine fin_ ?_
                 exact cl_
             ·obtain ⟨y, hye⟩ := getE (l := S) (i := i - 1) (by omega)
              have hpm : ((i : Int) - 1).toNat = i - 1 := by omega
              have hgt : decide ((0 : Int) < (i : Int)) = true := decide_eq_true (by omega)
              have hyd : S.getD (i - 1) default = y := getD_at hye
              have hx := And.intro @hxe (And.intro @hye (And.intro @hgt (And.intro @hpm (And.intro @eO.eq_1 hx0))))
              refine u_reg ?_
              try refine lg_mk ?_
              refine u_mv ?_
              refine u_bn ?_
              refine u_mv ?_
              refine g_pt ?_
              refine g_ld ?_
              refine g_mv ?_
              refine g_pt ?_
              refine g_pt ?_
              refine g_ld ?_
              refine g_pt ?_
              refine g_ld ?_
              refine g_mv ?_
              refine g_bn ?_
              refine g_pt ?_
              refine g_pt ?_
              refine g_ld ?_
              refine g_bn ?_
              refine u_pk ?_
              refine lg_nil ?_
              have hx := hx0
              refine h45 _ ?_; clear h45; try clear N45
              refine u_cond (fun hb47 => ?_) (fun hb47 => ?_)
              ·refine vc_seq_k fun N48 h48 => ?_
               refine u_reg ?_
               try refine lg_mk ?_
               refine u_mv ?_
               have hc := call_rule (E := (E_valid.at_ 68)) (f := 28) (sp := Spec.pure faultG) rfl
               have hs := @faultG.eq_1
               refine u_cp ?_
               refine u_st ?_
               refine lg_nil ?_
               refine h48 _ ?_; clear h48; try clear N48
               refine vc_ret ?_
               try simp only [k_rules]
               have hf : soF S i = 5 := by
                unfold soF; rw [hxd]; dsimp only
                rw [if_neg (by rw [hz1]; simp), if_neg (by have := hb43; simpa using this), hyd, if_pos ⟨hi0, by have := hb47; (try simp at this); omega⟩]
               have hr : stF S = (5, (i : Int)) := by unfold stF; rw [if_neg (by omega), firstF_at (i := i) (by rw [hf]; first | decide | exact hz1) i2 (by omega), hf]; rfl
               rw [hr]
               refine fin2_ ?_
               exact cl_
              ·refine vc_skip ?_
               try simp only [k_rules]
               refine h12 _ ?_; clear h12; try clear N12
               refine u_reg ?_
               try refine lg_mk ?_
               refine u_mv ?_
               refine u_bn ?_
               refine u_mv ?_
               refine lg_nil ?_
               refine h8 _ ⟨i + 1, ?_, ?_, [some 0, some 1], ?_⟩
               ·dsimp only
                exact ⟨by omega, lt_succO i2 (by unfold soF; rw [hxd]; dsimp only; rw [if_neg (by rw [hz1]; simp), if_neg (by have := hb43; simpa using this)]; first | (rw [if_neg (by omega)]; done) | (rw [hyd, if_neg (by have := hb47; (try simp at this); omega)]; done))⟩
               ·dsimp only
                omega
               ·dsimp only
                refine ⟨by rfl, ?_, ?_⟩
                ·refine fin_ ?_
                 exact cl_
                ·refine fin_ ?_
                 exact cl_
           refine at_alt ?_ ?_
           ·simp only [pick_rules, list_rules]
            try refine lg_mk ?_
            refine u_ld ?_
            refine lg_nil ?_
            refine at_seq ?_
            simp only [pick_rules, list_rules]
            try refine lg_mk ?_
            have hc := call_rule (E := (E_valid.at_ 68)) (f := 41) (sp := Spec.pure objDG) rfl
            have hs := @objDG.eq_1
            refine u_cp (hq := by (first | (exact hov) | exact sd_)) ?_
            refine u_bn ?_
            refine lg_nil ?_
            refine at_nil ?_
            have hx := hx0
            refine h18 _ ?_; clear h18; try clear N18
            refine u_cond (fun hb49 => ?_) (fun hb49 => ?_)
            ·refine vc_seq_k fun N50 h50 => ?_
             refine u_reg ?_
             try refine lg_mk ?_
             refine u_mv ?_
             have hc := call_rule (E := (E_valid.at_ 68)) (f := 28) (sp := Spec.pure faultG) rfl
             have hs := @faultG.eq_1
             refine u_cp ?_
             refine u_st ?_
             refine lg_nil ?_
             refine h50 _ ?_; clear h50; try clear N50
             refine vc_ret ?_
             try simp only [k_rules]
             have hf : soF S i = 18 := by
              unfold soF; rw [hxd]; dsimp only
              rw [if_neg (by rw [hz1]; simp), if_pos (by simpa using hb49)]
             have hr : stF S = (18, (i : Int)) := by unfold stF; rw [if_neg (by omega), firstF_at (i := i) (by rw [hf]; first | decide | exact hz1) i2 (by omega), hf]; rfl
             rw [hr]
             refine fin2_ ?_
             exact cl_
            ·refine vc_skip ?_
             try simp only [k_rules]
             refine h17 _ ?_; clear h17; try clear N17
             refine vc_seq_k fun N51 h51 => ?_
             rcases Nat.eq_zero_or_pos i with hi0 | hi0
             ·have hye := hxe
              have hgt : decide ((0 : Int) < (i : Int)) = false := decide_eq_false (by omega)
              have hpm := hxe
              have hx := And.intro @hxe (And.intro @hye (And.intro @hgt (And.intro @hpm (And.intro @eO.eq_1 hx0))))
              refine u_reg ?_
              try refine lg_mk ?_
              refine u_mv ?_
              refine u_bn ?_
              refine u_mv ?_
              refine g_pt ?_
              refine g_ld ?_
              refine g_mv ?_
              refine g_pt ?_
              refine g_pt ?_
              refine g_ld ?_
              refine g_pt ?_
              refine g_ld ?_
              refine g_mv ?_
              refine g_bn ?_
              refine g_pt ?_
              refine g_pt ?_
              refine g_ld ?_
              refine g_bn ?_
              refine u_pk ?_
              refine lg_nil ?_
              have hx := hx0
              refine h51 _ ?_; clear h51; try clear N51
              refine u_cond (fun hb52 => ?_) (fun hb52 => ?_)
              ·first | omega | exact absurd trivial hb52 | contradiction | (simp_all; done)
              ·refine vc_skip ?_
               try simp only [k_rules]
               refine h12 _ ?_; clear h12; try clear N12
               refine u_reg ?_
               try refine lg_mk ?_
               refine u_mv ?_
               refine u_bn ?_
               refine u_mv ?_
               refine lg_nil ?_
               refine h8 _ ⟨i + 1, ?_, ?_, [some 0, some 1], ?_⟩
               ·dsimp only
                exact ⟨by omega, lt_succO i2 (by unfold soF; rw [hxd]; dsimp only; rw [if_neg (by rw [hz1]; simp), if_neg (by have := hb49; simpa using this)]; first | (rw [if_neg (by omega)]; done) | (rw [hyd, if_neg (by have := hb52; (try simp at this); omega)]; done))⟩
               ·dsimp only
                omega
               ·dsimp only
                refine ⟨by rfl, ?_, ?_⟩
                ·refine fin_ ?_
                 exact cl_
                ·refine fin_ ?_
                 exact cl_
             ·obtain ⟨y, hye⟩ := getE (l := S) (i := i - 1) (by omega)
              have hpm : ((i : Int) - 1).toNat = i - 1 := by omega
              have hgt : decide ((0 : Int) < (i : Int)) = true := decide_eq_true (by omega)
              have hyd : S.getD (i - 1) default = y := getD_at hye
              have hx := And.intro @hxe (And.intro @hye (And.intro @hgt (And.intro @hpm (And.intro @eO.eq_1 hx0))))
              refine u_reg ?_
              try refine lg_mk ?_
              refine u_mv ?_
              refine u_bn ?_
              refine u_mv ?_
              refine g_pt ?_
              refine g_ld ?_
              refine g_mv ?_
              refine g_pt ?_
              refine g_pt ?_
              refine g_ld ?_
              refine g_pt ?_
              refine g_ld ?_
              refine g_mv ?_
              refine g_bn ?_
              refine g_pt ?_
              refine g_pt ?_
              refine g_ld ?_
              refine g_bn ?_
              refine u_pk ?_
              refine lg_nil ?_
              have hx := hx0
              refine h51 _ ?_; clear h51; try clear N51
              refine u_cond (fun hb53 => ?_) (fun hb53 => ?_)
              ·refine vc_seq_k fun N54 h54 => ?_
               refine u_reg ?_
               try refine lg_mk ?_
               refine u_mv ?_
               have hc := call_rule (E := (E_valid.at_ 68)) (f := 28) (sp := Spec.pure faultG) rfl
               have hs := @faultG.eq_1
               refine u_cp ?_
               refine u_st ?_
               refine lg_nil ?_
               refine h54 _ ?_; clear h54; try clear N54
               refine vc_ret ?_
               try simp only [k_rules]
               have hf : soF S i = 5 := by
                unfold soF; rw [hxd]; dsimp only
                rw [if_neg (by rw [hz1]; simp), if_neg (by have := hb49; simpa using this), hyd, if_pos ⟨hi0, by have := hb53; (try simp at this); omega⟩]
               have hr : stF S = (5, (i : Int)) := by unfold stF; rw [if_neg (by omega), firstF_at (i := i) (by rw [hf]; first | decide | exact hz1) i2 (by omega), hf]; rfl
               rw [hr]
               refine fin2_ ?_
               exact cl_
              ·refine vc_skip ?_
               try simp only [k_rules]
               refine h12 _ ?_; clear h12; try clear N12
               refine u_reg ?_
               try refine lg_mk ?_
               refine u_mv ?_
               refine u_bn ?_
               refine u_mv ?_
               refine lg_nil ?_
               refine h8 _ ⟨i + 1, ?_, ?_, [some 0, some 1], ?_⟩
               ·dsimp only
                exact ⟨by omega, lt_succO i2 (by unfold soF; rw [hxd]; dsimp only; rw [if_neg (by rw [hz1]; simp), if_neg (by have := hb49; simpa using this)]; first | (rw [if_neg (by omega)]; done) | (rw [hyd, if_neg (by have := hb53; (try simp at this); omega)]; done))⟩
               ·dsimp only
                omega
               ·dsimp only
                refine ⟨by rfl, ?_, ?_⟩
                ·refine fin_ ?_
                 exact cl_
                ·refine fin_ ?_
                 exact cl_
           exact at_end
          exact at_end
         exact at_end
        exact at_end
       exact at_end
     ·have hz1 := hvx
      refine u_reg ?_
      try refine lg_mk ?_
      refine u_pt ?_
      refine u_ld ?_
      refine u_bn ?_
      refine lg_nil ?_
      refine h15 _ ?_; clear h15; try clear N15
      refine u_cond (fun hb55 => ?_) (fun hb55 => ?_)
      ·refine vc_seq_k fun N56 h56 => ?_
       refine u_reg ?_
       try refine lg_mk ?_
       refine u_pt ?_
       refine u_ld ?_
       refine u_mv ?_
       have hc := call_rule (E := (E_valid.at_ 68)) (f := 28) (sp := Spec.pure faultG) rfl
       have hs := @faultG.eq_1
       refine u_cp ?_
       refine u_st ?_
       refine lg_nil ?_
       refine h56 _ ?_; clear h56; try clear N56
       refine vc_ret ?_
       try simp only [k_rules]
       have hf : soF S i = (objF ⟨k, l, u⟩).1 := by
        unfold soF; rw [hxd]; dsimp only
        rw [if_pos hz1]
       have hr : stF S = ((objF ⟨k, l, u⟩).1, (i : Int)) := by unfold stF; rw [if_neg (by omega), firstF_at (i := i) (by rw [hf]; first | decide | exact hz1) i2 (by omega), hf]; rfl
       rw [hr]
       refine fin2_ ?_
       exact cl_
      ·exact absurd (by simpa using hb55) hz1
    ·refine vc_exit ?_
     simp only [k_rules, Nat.reduceEqDiff, reduceIte, eq_self]
     refine h6 _ ?_; clear h6; try clear N6
     refine vc_seq_k fun N57 h57 => ?_
     refine u_reg ?_
     try refine lg_mk ?_
     refine u_bd ?_
     refine u_st ?_
     refine lg_nil ?_
     refine h57 _ ?_; clear h57; try clear N57
     refine vc_ret ?_
     try simp only [k_rules]
     have hr : stF S = (0, 0) := by unfold stF; rw [if_neg (by omega), firstF_none (fun j hj => i2 j (by omega))]
     rw [hr]
     refine fin2_ ?_
     exact cl_
 ·cases hg

def E_validR : Env Tryz.prog := E_valid.add 26 (Spec.pure valG) validR_meets (by kernel_rfl)
end Go.Proofs.YtcjipciiljjfhaaGreatDoor
