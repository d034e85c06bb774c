/- Walks, printed by wip/gen/walk.py. -/
import Derived.Test.YtcjipciiljjfhaaGreatDoorT37
import Derived.Test.YtcjipciiljjfhaaGreatDoorV5
set_option linter.all false
set_option maxRecDepth 100000
set_option maxHeartbeats 4000000
namespace Go.Proofs.YtcjipciiljjfhaaGreatDoor
open Go Go.Vc Go.RowKit
theorem refsR_meets : Meets Tryz.prog 27 (Spec.pure valRG) := by
 refine meets_fun (E_nameR.at_ 78) Tryz.func27 rfl rfl rfl ?_
 intro args p r hg hp
 unfold valRG at hg
 split at hg
 ·rename_i xs
  simp only [Option.some.injEq, Prod.mk.injEq] at hg
  obtain ⟨rfl, rfl⟩ := hg
  obtain ⟨he, hl, hsm⟩ := hp
  generalize dR xs = l at *
  subst he
  have hT : (E_nameR).X = T := rfl
  have hx0 := And.intro @rect_eR (And.intro @dR_rows (And.intro @dec_t (And.intro @dec_f @Tryz.results27)))
  have hx := hx0
  refine ⟨by rfl, ?_⟩
  intro F W0 hnp hmk
  refine vc_seq_k fun N1 h1 => ?_
  refine u_reg ?_
  try refine lg_mk ?_
  refine u_bx ?_
  refine u_al ?_
  refine lg_nil ?_
  refine h1 _ ?_; clear h1; try clear N1
  refine vc_seq_k fun N2 h2 => ?_
  refine vc_seq_k fun N3 h3 => ?_
  refine u_reg ?_
  try refine lg_mk ?_
  refine u_pt ?_
  refine u_ld ?_
  refine u_ln ?_
  refine u_bn ?_
  refine lg_nil ?_
  refine h3 _ ?_; clear h3; try clear N3
  refine u_cond (fun hb4 => ?_) (fun hb4 => ?_)
  ·refine vc_seq_k fun N5 h5 => ?_
   refine u_reg ?_
   try refine lg_mk ?_
   have hc := call_rule (E := (E_nameR.at_ 78)) (f := 28) (sp := Spec.pure faultG) rfl
   have hs := @faultG.eq_1
   refine u_cp ?_
   refine u_st ?_
   refine lg_nil ?_
   refine h5 _ ?_; clear h5; try clear N5
   refine vc_ret ?_
   try simp only [k_rules]
   have hr : rfF l = (2, -1) := by unfold rfF; rw [if_pos (by have := hb4; omega)]
   rw [hr]
   refine fin2_ ?_
   exact cl_
  ·refine vc_skip ?_
   try simp only [k_rules]
   refine h2 _ ?_; clear h2; try clear N2
   refine vc_seq_k fun N6 h6 => ?_
   refine vc_seq_k fun N7 h7 => ?_
   refine u_reg ?_
   try refine lg_mk ?_
   refine u_mv ?_
   refine lg_nil ?_
   refine h7 _ ?_; clear h7; try clear N7
   refine vc_block ?_
   refine vc_loop_mk (σ := Nat) (fun s => (fun i => i ≤ l.length ∧ ∀ j, j < i → rfC l j = 0) s)
    (fun s => (fun i => [(1, .ptr 0 0 0), (2, .ptr 1 0 0), (3, .d (.int .i64 (i : Nat)))]) s)
    (fun s => (fun i => [some (.one 27 [.d (.sl (rows eR l))]), some (.one 32 [.d (.int .i64 0), .d (.int .i64 0)])]) s) (fun s => (fun i => l.length - i) s) hnp 0 ?_ [some 0, some 1] ?_ ?_
   ·dsimp only
    exact ⟨by omega, fun j hj => by omega⟩
   ·dsimp only
    refine ⟨by rfl, ?_, ?_⟩
    ·refine fin_ ?_
     exact cl_
    ·refine fin_ ?_
     exact cl_
   ·rintro i hinv N8 h8
    dsimp only at hinv ⊢
    obtain ⟨i1, i2⟩ := hinv
    refine vc_seq_k fun N9 h9 => ?_
    refine vc_seq_k fun N10 h10 => ?_
    refine u_reg ?_
    try refine lg_mk ?_
    refine u_mv ?_
    refine u_pt ?_
    refine u_ld ?_
    refine u_ln ?_
    refine u_bn ?_
    refine lg_nil ?_
    refine h10 _ ?_; clear h10; try clear N10
    refine u_cond (fun hb11 => ?_) (fun hb11 => ?_)
    ·obtain ⟨r, hre⟩ := getE (l := l) (i := i) (by omega)
     have hrs := hsm r (mem_at hre)
     have hns := names60 i2
     obtain ⟨nm, tg⟩ := r
     dsimp only at hrs
     refine vc_skip ?_
     try simp only [k_rules]
     refine h9 _ ?_; clear h9; try clear N9
     refine vc_seq_k fun N12 h12 => ?_
     refine vc_block ?_
     refine vc_seq_k fun N13 h13 => ?_
     refine vc_seq_k fun N14 h14 => ?_
     rcases rf_cases6 l hre with ⟨hn, hcd⟩ | ⟨hn, ht, hcd⟩ | ⟨hn, ht, h0, hy, hcd⟩ | ⟨hn, ht, h0, hy, ha, hcd⟩ | ⟨hn, ht, h0, hy, ha, hcd⟩ | ⟨hn, ht, h0, ha, hcd⟩
     ·dsimp only at hn
      have hx := And.intro @hre (And.intro @hn (And.intro @eR.eq_1 hx0))
      refine u_reg ?_
      try refine lg_mk ?_
      refine u_pt ?_
      refine u_ld ?_
      refine u_mv ?_
      refine u_pt ?_
      refine u_pt ?_
      refine u_ld ?_
      have hc := call_rule (E := (E_nameR.at_ 78)) (f := 42) (sp := Spec.pure nameG) rfl
      have hs := @nameG.eq_1
      refine u_cp (hq := by (first | (omega) | exact sd_)) ?_
      refine u_un ?_
      refine lg_nil ?_
      have hx := hx0
      refine h14 _ ?_; clear h14; try clear N14
      refine u_cond (fun hb15 => ?_) (fun hb15 => ?_)
      ·refine vc_seq_k fun N16 h16 => ?_
       refine u_reg ?_
       try refine lg_mk ?_
       refine u_mv ?_
       have hc := call_rule (E := (E_nameR.at_ 78)) (f := 28) (sp := Spec.pure faultG) rfl
       have hs := @faultG.eq_1
       refine u_cp ?_
       refine u_st ?_
       refine lg_nil ?_
       refine h16 _ ?_; clear h16; try clear N16
       refine vc_ret ?_
       try simp only [k_rules]
       have hr := rfF_at (l := l) (i := i) (by omega) (by omega) i2 hcd (by decide)
       rw [hr]
       refine fin2_ ?_
       exact cl_
      ·first | omega | exact absurd trivial hb15 | contradiction | (simp_all; done)
     ·dsimp only at hn ht
      have ht2 : (decide ((0 : Int) ≤ tg) && decide (tg < 2305843009213693951)) = false := by rw [Bool.and_eq_false_iff, decide_eq_false_iff_not, decide_eq_false_iff_not]; omega
      have ht3 := ht2
      have hx := And.intro @hre (And.intro @hn (And.intro @eR.eq_1 hx0))
      refine u_reg ?_
      try refine lg_mk ?_
      refine u_pt ?_
      refine u_ld ?_
      refine u_mv ?_
      refine u_pt ?_
      refine u_pt ?_
      refine u_ld ?_
      have hc := call_rule (E := (E_nameR.at_ 78)) (f := 42) (sp := Spec.pure nameG) rfl
      have hs := @nameG.eq_1
      refine u_cp (hq := by (first | (omega) | exact sd_)) ?_
      refine u_un ?_
      refine lg_nil ?_
      have hx := hx0
      refine h14 _ ?_; clear h14; try clear N14
      refine u_cond (fun hb17 => ?_) (fun hb17 => ?_)
      ·first | omega | exact absurd trivial hb17 | contradiction | (simp_all; done)
      ·refine vc_skip ?_
       try simp only [k_rules]
       refine h13 _ ?_; clear h13; try clear N13
       refine vc_seq_k fun N18 h18 => ?_
       refine vc_seq_k fun N19 h19 => ?_
       have hx := And.intro @hre (And.intro @eR.eq_1 (And.intro @ht2 (And.intro @ht3 hx0)))
       refine u_reg ?_
       try refine lg_mk ?_
       refine u_pt ?_
       refine u_ld ?_
       refine u_mv ?_
       refine u_pt ?_
       refine u_pt ?_
       refine u_ld ?_
       have hc := call_rule (E := (E_nameR.at_ 78)) (f := 43) (sp := Spec.pure isDG) rfl
       have hs := @isDG.eq_1
       refine u_cp ?_
       refine u_un ?_
       refine lg_nil ?_
       have hx := hx0
       refine h19 _ ?_; clear h19; try clear N19
       refine u_cond (fun hb20 => ?_) (fun hb20 => ?_)
       ·refine vc_seq_k fun N21 h21 => ?_
        refine u_reg ?_
        try refine lg_mk ?_
        refine u_mv ?_
        have hc := call_rule (E := (E_nameR.at_ 78)) (f := 28) (sp := Spec.pure faultG) rfl
        have hs := @faultG.eq_1
        refine u_cp ?_
        refine u_st ?_
        refine lg_nil ?_
        refine h21 _ ?_; clear h21; try clear N21
        refine vc_ret ?_
        try simp only [k_rules]
        have hr := rfF_at (l := l) (i := i) (by omega) (by omega) i2 hcd (by decide)
        rw [hr]
        refine fin2_ ?_
        exact cl_
       ·first | omega | exact absurd trivial hb20 | contradiction | (simp_all; done)
     ·dsimp only at hn ht
      obtain ⟨ht0, ht1⟩ := ht
      have ht2 : decide ((0 : Int) ≤ tg) = true := decide_eq_true ht0
      have ht3 : decide (tg < 2305843009213693951) = true := decide_eq_true ht1
      have hnl : nm.length ≤ 60 := name_len hn
      obtain ⟨y, hye, hle⟩ := hy
      obtain ⟨ny, ty⟩ := y
      have hgt : decide ((0 : Int) < (i : Int)) = true := decide_eq_true (by omega)
      have hpm : ((i : Int) - 1).toNat = i - 1 := by omega
      dsimp only at hle
      have hx := And.intro @hre (And.intro @hn (And.intro @eR.eq_1 hx0))
      refine u_reg ?_
      try refine lg_mk ?_
      refine u_pt ?_
      refine u_ld ?_
      refine u_mv ?_
      refine u_pt ?_
      refine u_pt ?_
      refine u_ld ?_
      have hc := call_rule (E := (E_nameR.at_ 78)) (f := 42) (sp := Spec.pure nameG) rfl
      have hs := @nameG.eq_1
      refine u_cp (hq := by (first | (omega) | exact sd_)) ?_
      refine u_un ?_
      refine lg_nil ?_
      have hx := hx0
      refine h14 _ ?_; clear h14; try clear N14
      refine u_cond (fun hb22 => ?_) (fun hb22 => ?_)
      ·first | omega | exact absurd trivial hb22 | contradiction | (simp_all; done)
      ·refine vc_skip ?_
       try simp only [k_rules]
       refine h13 _ ?_; clear h13; try clear N13
       refine vc_seq_k fun N23 h23 => ?_
       refine vc_seq_k fun N24 h24 => ?_
       have hx := And.intro @hre (And.intro @eR.eq_1 (And.intro @ht2 (And.intro @ht3 hx0)))
       refine u_reg ?_
       try refine lg_mk ?_
       refine u_pt ?_
       refine u_ld ?_
       refine u_mv ?_
       refine u_pt ?_
       refine u_pt ?_
       refine u_ld ?_
       have hc := call_rule (E := (E_nameR.at_ 78)) (f := 43) (sp := Spec.pure isDG) rfl
       have hs := @isDG.eq_1
       refine u_cp ?_
       refine u_un ?_
       refine lg_nil ?_
       have hx := hx0
       refine h24 _ ?_; clear h24; try clear N24
       refine u_cond (fun hb25 => ?_) (fun hb25 => ?_)
       ·first | omega | exact absurd trivial hb25 | contradiction | (simp_all; done)
       ·refine vc_skip ?_
        try simp only [k_rules]
        refine h23 _ ?_; clear h23; try clear N23
        refine vc_seq_k fun N26 h26 => ?_
        refine vc_seq_k fun N27 h27 => ?_
        have hx := And.intro @hre (And.intro @hgt (And.intro @hle (And.intro @hpm (And.intro @hye (And.intro @eR.eq_1 hx0)))))
        refine u_reg ?_
        try refine lg_mk ?_
        refine u_mv ?_
        refine u_bn ?_
        refine u_mv ?_
        refine g_pt ?_
        refine g_ld ?_
        refine g_mv ?_
        refine g_pt ?_
        refine g_pt ?_
        refine g_ld ?_
        refine g_pt ?_
        refine g_ld ?_
        refine g_mv ?_
        refine g_bn ?_
        refine g_pt ?_
        refine g_pt ?_
        refine g_ld ?_
        refine g_bn ?_
        refine u_pk ?_
        refine lg_nil ?_
        have hx := hx0
        refine h27 _ ?_; clear h27; try clear N27
        refine u_cond (fun hb28 => ?_) (fun hb28 => ?_)
        ·refine vc_seq_k fun N29 h29 => ?_
         refine u_reg ?_
         try refine lg_mk ?_
         refine u_mv ?_
         have hc := call_rule (E := (E_nameR.at_ 78)) (f := 28) (sp := Spec.pure faultG) rfl
         have hs := @faultG.eq_1
         refine u_cp ?_
         refine u_st ?_
         refine lg_nil ?_
         refine h29 _ ?_; clear h29; try clear N29
         refine vc_ret ?_
         try simp only [k_rules]
         have hr := rfF_at (l := l) (i := i) (by omega) (by omega) i2 hcd (by decide)
         rw [hr]
         refine fin2_ ?_
         exact cl_
        ·first | omega | exact absurd trivial hb28 | contradiction | (simp_all; done)
     ·dsimp only at hn ht ha
      obtain ⟨ht0, ht1⟩ := ht
      have ht2 : decide ((0 : Int) ≤ tg) = true := decide_eq_true ht0
      have ht3 : decide (tg < 2305843009213693951) = true := decide_eq_true ht1
      have hnl : nm.length ≤ 60 := name_len hn
      obtain ⟨y, hye, hle⟩ := hy
      obtain ⟨ny, ty⟩ := y
      have hgt : decide ((0 : Int) < (i : Int)) = true := decide_eq_true (by omega)
      have hpm : ((i : Int) - 1).toNat = i - 1 := by omega
      dsimp only at hle
      have hx := And.intro @hre (And.intro @hn (And.intro @eR.eq_1 hx0))
      refine u_reg ?_
      try refine lg_mk ?_
      refine u_pt ?_
      refine u_ld ?_
      refine u_mv ?_
      refine u_pt ?_
      refine u_pt ?_
      refine u_ld ?_
      have hc := call_rule (E := (E_nameR.at_ 78)) (f := 42) (sp := Spec.pure nameG) rfl
      have hs := @nameG.eq_1
      refine u_cp (hq := by (first | (omega) | exact sd_)) ?_
      refine u_un ?_
      refine lg_nil ?_
      have hx := hx0
      refine h14 _ ?_; clear h14; try clear N14
      refine u_cond (fun hb30 => ?_) (fun hb30 => ?_)
      ·first | omega | exact absurd trivial hb30 | contradiction | (simp_all; done)
      ·refine vc_skip ?_
       try simp only [k_rules]
       refine h13 _ ?_; clear h13; try clear N13
       refine vc_seq_k fun N31 h31 => ?_
       refine vc_seq_k fun N32 h32 => ?_
       have hx := And.intro @hre (And.intro @eR.eq_1 (And.intro @ht2 (And.intro @ht3 hx0)))
       refine u_reg ?_
       try refine lg_mk ?_
       refine u_pt ?_
       refine u_ld ?_
       refine u_mv ?_
       refine u_pt ?_
       refine u_pt ?_
       refine u_ld ?_
       have hc := call_rule (E := (E_nameR.at_ 78)) (f := 43) (sp := Spec.pure isDG) rfl
       have hs := @isDG.eq_1
       refine u_cp ?_
       refine u_un ?_
       refine lg_nil ?_
       have hx := hx0
       refine h32 _ ?_; clear h32; try clear N32
       refine u_cond (fun hb33 => ?_) (fun hb33 => ?_)
       ·first | omega | exact absurd trivial hb33 | contradiction | (simp_all; done)
       ·refine vc_skip ?_
        try simp only [k_rules]
        refine h31 _ ?_; clear h31; try clear N31
        refine vc_seq_k fun N34 h34 => ?_
        refine vc_seq_k fun N35 h35 => ?_
        have hx := And.intro @hre (And.intro @hgt (And.intro @hle (And.intro @hpm (And.intro @hye (And.intro @eR.eq_1 hx0)))))
        refine u_reg ?_
        try refine lg_mk ?_
        refine u_mv ?_
        refine u_bn ?_
        refine u_mv ?_
        refine g_pt ?_
        refine g_ld ?_
        refine g_mv ?_
        refine g_pt ?_
        refine g_pt ?_
        refine g_ld ?_
        refine g_pt ?_
        refine g_ld ?_
        refine g_mv ?_
        refine g_bn ?_
        refine g_pt ?_
        refine g_pt ?_
        refine g_ld ?_
        refine g_bn ?_
        refine u_pk ?_
        refine lg_nil ?_
        have hx := hx0
        refine h35 _ ?_; clear h35; try clear N35
        refine u_cond (fun hb36 => ?_) (fun hb36 => ?_)
        ·first | omega | exact absurd trivial hb36 | contradiction | (simp_all; done)
        ·refine vc_skip ?_
         try simp only [k_rules]
         refine h34 _ ?_; clear h34; try clear N34
         refine vc_seq_k fun N37 h37 => ?_
         refine u_reg ?_
         try refine lg_mk ?_
         refine u_mv ?_
         refine lg_nil ?_
         refine h37 _ ?_; clear h37; try clear N37
         refine vc_block ?_
         refine vc_loop_mk (σ := Nat) (fun s => (fun j => j ≤ i ∧ ∀ y ∈ l.take j, cnfB y.nm nm = false) s)
          (fun s => (fun j => [(1, .ptr 0 0 0), (2, .ptr 1 0 0), (3, .d (.int .i64 (i : Nat))), (4, .d (.int .i64 (j : Nat)))]) s)
          (fun s => (fun j => [some (.one 27 [.d (.sl (rows eR l))]), some (.one 32 [.d (.int .i64 0), .d (.int .i64 0)])]) s) (fun s => (fun j => i - j) s) hnp 0 ?_ [some 0, some 1] ?_ ?_
         ·dsimp only
          exact ⟨by omega, fun y hy => by simp at hy⟩
         ·dsimp only
          refine ⟨by rfl, ?_, ?_⟩
          ·refine fin_ ?_
           exact cl_
          ·refine fin_ ?_
           exact cl_
         ·rintro j hinv N38 h38
          dsimp only at hinv ⊢
          obtain ⟨j1, j2⟩ := hinv
          refine vc_seq_k fun N39 h39 => ?_
          refine vc_seq_k fun N40 h40 => ?_
          refine u_reg ?_
          try refine lg_mk ?_
          refine u_mv ?_
          refine u_mv ?_
          refine u_bn ?_
          refine lg_nil ?_
          refine h40 _ ?_; clear h40; try clear N40
          refine u_cond (fun hb41 => ?_) (fun hb41 => ?_)
          ·obtain ⟨z, hze⟩ := getE (l := l) (i := j) (by omega)
           have hz60 := hns z (List.mem_of_getElem? (i := j) (by rw [List.getElem?_take, if_pos (by omega)]; exact hze))
           obtain ⟨nz, tz⟩ := z
           dsimp only at hz60
           refine vc_skip ?_
           try simp only [k_rules]
           refine h39 _ ?_; clear h39; try clear N39
           refine vc_seq_k fun N42 h42 => ?_
           refine vc_block ?_
           refine vc_seq_k fun N43 h43 => ?_
           have hx := And.intro @hze (And.intro @hre (And.intro @eR.eq_1 hx0))
           refine u_reg ?_
           try refine lg_mk ?_
           refine u_pt ?_
           refine u_ld ?_
           refine u_mv ?_
           refine u_pt ?_
           refine u_pt ?_
           refine u_ld ?_
           refine u_pt ?_
           refine u_ld ?_
           refine u_mv ?_
           refine u_pt ?_
           refine u_pt ?_
           refine u_ld ?_
           have hc := call_rule (E := (E_nameR.at_ 78)) (f := 44) (sp := Spec.pure cnfRG) rfl
           have hs := @cnfRG.eq_1
           refine u_cp (hq := by (first | (first | omega | exact ⟨hz60, by omega⟩) | exact sd_)) ?_
           refine lg_nil ?_
           have hx := hx0
           refine h43 _ ?_; clear h43; try clear N43
           refine u_cond (fun hb44 => ?_) (fun hb44 => ?_)
           ·have hnt : cnfB nz nm = true := hb44
            refine vc_seq_k fun N45 h45 => ?_
            refine u_reg ?_
            try refine lg_mk ?_
            refine u_mv ?_
            have hc := call_rule (E := (E_nameR.at_ 78)) (f := 28) (sp := Spec.pure faultG) rfl
            have hs := @faultG.eq_1
            refine u_cp ?_
            refine u_st ?_
            refine lg_nil ?_
            refine h45 _ ?_; clear h45; try clear N45
            refine vc_ret ?_
            try simp only [k_rules]
            have hr := rfF_at (l := l) (i := i) (by omega) (by omega) i2 hcd (by decide)
            rw [hr]
            refine fin2_ ?_
            exact cl_
           ·have hnt : cnfB nz nm = false := by simpa using hb44
            refine vc_skip ?_
            try simp only [k_rules]
            refine h42 _ ?_; clear h42; try clear N42
            refine u_reg ?_
            try refine lg_mk ?_
            refine u_mv ?_
            refine u_bn ?_
            refine u_mv ?_
            refine lg_nil ?_
            refine h38 _ ⟨j + 1, ?_, ?_, [some 0, some 1], ?_⟩
            ·dsimp only
             exact ⟨by omega, gall_snoc (P := fun q => cnfB q.nm nm) j2 hze hnt⟩
            ·dsimp only
             omega
            ·dsimp only
             refine ⟨by rfl, ?_, ?_⟩
             ·refine fin_ ?_
              exact cl_
             ·refine fin_ ?_
              exact cl_
          ·have h8 := any_no (P := fun q => cnfB q.nm nm) j2 (show i ≤ j by omega); rw [ha] at h8; cases h8
     ·dsimp only at hn ht ha
      obtain ⟨ht0, ht1⟩ := ht
      have ht2 : decide ((0 : Int) ≤ tg) = true := decide_eq_true ht0
      have ht3 : decide (tg < 2305843009213693951) = true := decide_eq_true ht1
      have hnl : nm.length ≤ 60 := name_len hn
      obtain ⟨y, hye, hle⟩ := hy
      obtain ⟨ny, ty⟩ := y
      have hgt : decide ((0 : Int) < (i : Int)) = true := decide_eq_true (by omega)
      have hpm : ((i : Int) - 1).toNat = i - 1 := by omega
      dsimp only at hle
      have hx := And.intro @hre (And.intro @hn (And.intro @eR.eq_1 hx0))
      refine u_reg ?_
      try refine lg_mk ?_
      refine u_pt ?_
      refine u_ld ?_
      refine u_mv ?_
      refine u_pt ?_
      refine u_pt ?_
      refine u_ld ?_
      have hc := call_rule (E := (E_nameR.at_ 78)) (f := 42) (sp := Spec.pure nameG) rfl
      have hs := @nameG.eq_1
      refine u_cp (hq := by (first | (omega) | exact sd_)) ?_
      refine u_un ?_
      refine lg_nil ?_
      have hx := hx0
      refine h14 _ ?_; clear h14; try clear N14
      refine u_cond (fun hb46 => ?_) (fun hb46 => ?_)
      ·first | omega | exact absurd trivial hb46 | contradiction | (simp_all; done)
      ·refine vc_skip ?_
       try simp only [k_rules]
       refine h13 _ ?_; clear h13; try clear N13
       refine vc_seq_k fun N47 h47 => ?_
       refine vc_seq_k fun N48 h48 => ?_
       have hx := And.intro @hre (And.intro @eR.eq_1 (And.intro @ht2 (And.intro @ht3 hx0)))
       refine u_reg ?_
       try refine lg_mk ?_
       refine u_pt ?_
       refine u_ld ?_
       refine u_mv ?_
       refine u_pt ?_
       refine u_pt ?_
       refine u_ld ?_
       have hc := call_rule (E := (E_nameR.at_ 78)) (f := 43) (sp := Spec.pure isDG) rfl
       have hs := @isDG.eq_1
       refine u_cp ?_
       refine u_un ?_
       refine lg_nil ?_
       have hx := hx0
       refine h48 _ ?_; clear h48; try clear N48
       refine u_cond (fun hb49 => ?_) (fun hb49 => ?_)
       ·first | omega | exact absurd trivial hb49 | contradiction | (simp_all; done)
       ·refine vc_skip ?_
        try simp only [k_rules]
        refine h47 _ ?_; clear h47; try clear N47
        refine vc_seq_k fun N50 h50 => ?_
        refine vc_seq_k fun N51 h51 => ?_
        have hx := And.intro @hre (And.intro @hgt (And.intro @hle (And.intro @hpm (And.intro @hye (And.intro @eR.eq_1 hx0)))))
        refine u_reg ?_
        try refine lg_mk ?_
        refine u_mv ?_
        refine u_bn ?_
        refine u_mv ?_
        refine g_pt ?_
        refine g_ld ?_
        refine g_mv ?_
        refine g_pt ?_
        refine g_pt ?_
        refine g_ld ?_
        refine g_pt ?_
        refine g_ld ?_
        refine g_mv ?_
        refine g_bn ?_
        refine g_pt ?_
        refine g_pt ?_
        refine g_ld ?_
        refine g_bn ?_
        refine u_pk ?_
        refine lg_nil ?_
        have hx := hx0
        refine h51 _ ?_; clear h51; try clear N51
        refine u_cond (fun hb52 => ?_) (fun hb52 => ?_)
        ·first | omega | exact absurd trivial hb52 | contradiction | (simp_all; done)
        ·refine vc_skip ?_
         try simp only [k_rules]
         refine h50 _ ?_; clear h50; try clear N50
         refine vc_seq_k fun N53 h53 => ?_
         refine u_reg ?_
         try refine lg_mk ?_
         refine u_mv ?_
         refine lg_nil ?_
         refine h53 _ ?_; clear h53; try clear N53
         refine vc_block ?_
         refine vc_loop_mk (σ := Nat) (fun s => (fun j => j ≤ i ∧ ∀ y ∈ l.take j, cnfB y.nm nm = false) s)
          (fun s => (fun j => [(1, .ptr 0 0 0), (2, .ptr 1 0 0), (3, .d (.int .i64 (i : Nat))), (4, .d (.int .i64 (j : Nat)))]) s)
          (fun s => (fun j => [some (.one 27 [.d (.sl (rows eR l))]), some (.one 32 [.d (.int .i64 0), .d (.int .i64 0)])]) s) (fun s => (fun j => i - j) s) hnp 0 ?_ [some 0, some 1] ?_ ?_
         ·dsimp only
          exact ⟨by omega, fun y hy => by simp at hy⟩
         ·dsimp only
          refine ⟨by rfl, ?_, ?_⟩
          ·refine fin_ ?_
           exact cl_
          ·refine fin_ ?_
           exact cl_
         ·rintro j hinv N54 h54
          dsimp only at hinv ⊢
          obtain ⟨j1, j2⟩ := hinv
          refine vc_seq_k fun N55 h55 => ?_
          refine vc_seq_k fun N56 h56 => ?_
          refine u_reg ?_
          try refine lg_mk ?_
          refine u_mv ?_
          refine u_mv ?_
          refine u_bn ?_
          refine lg_nil ?_
          refine h56 _ ?_; clear h56; try clear N56
          refine u_cond (fun hb57 => ?_) (fun hb57 => ?_)
          ·obtain ⟨z, hze⟩ := getE (l := l) (i := j) (by omega)
           have hz60 := hns z (List.mem_of_getElem? (i := j) (by rw [List.getElem?_take, if_pos (by omega)]; exact hze))
           obtain ⟨nz, tz⟩ := z
           dsimp only at hz60
           refine vc_skip ?_
           try simp only [k_rules]
           refine h55 _ ?_; clear h55; try clear N55
           refine vc_seq_k fun N58 h58 => ?_
           refine vc_block ?_
           refine vc_seq_k fun N59 h59 => ?_
           have hx := And.intro @hze (And.intro @hre (And.intro @eR.eq_1 hx0))
           refine u_reg ?_
           try refine lg_mk ?_
           refine u_pt ?_
           refine u_ld ?_
           refine u_mv ?_
           refine u_pt ?_
           refine u_pt ?_
           refine u_ld ?_
           refine u_pt ?_
           refine u_ld ?_
           refine u_mv ?_
           refine u_pt ?_
           refine u_pt ?_
           refine u_ld ?_
           have hc := call_rule (E := (E_nameR.at_ 78)) (f := 44) (sp := Spec.pure cnfRG) rfl
           have hs := @cnfRG.eq_1
           refine u_cp (hq := by (first | (first | omega | exact ⟨hz60, by omega⟩) | exact sd_)) ?_
           refine lg_nil ?_
           have hx := hx0
           refine h59 _ ?_; clear h59; try clear N59
           refine u_cond (fun hb60 => ?_) (fun hb60 => ?_)
           ·have h8 := any_at (P := fun q => cnfB q.nm nm) hze (show j < i by omega) hb60; rw [ha] at h8; cases h8
           ·have hnt : cnfB nz nm = false := by simpa using hb60
            refine vc_skip ?_
            try simp only [k_rules]
            refine h58 _ ?_; clear h58; try clear N58
            refine u_reg ?_
            try refine lg_mk ?_
            refine u_mv ?_
            refine u_bn ?_
            refine u_mv ?_
            refine lg_nil ?_
            refine h54 _ ⟨j + 1, ?_, ?_, [some 0, some 1], ?_⟩
            ·dsimp only
             exact ⟨by omega, gall_snoc (P := fun q => cnfB q.nm nm) j2 hze hnt⟩
            ·dsimp only
             omega
            ·dsimp only
             refine ⟨by rfl, ?_, ?_⟩
             ·refine fin_ ?_
              exact cl_
             ·refine fin_ ?_
              exact cl_
          ·refine vc_exit ?_
           simp only [k_rules, Nat.reduceEqDiff, reduceIte, eq_self]
           refine h12 _ ?_; clear h12; try clear N12
           refine u_reg ?_
           try refine lg_mk ?_
           refine u_mv ?_
           refine u_bn ?_
           refine u_mv ?_
           refine lg_nil ?_
           refine h8 _ ⟨i + 1, ?_, ?_, [some 0, some 1], ?_⟩
           ·dsimp only
            exact ⟨by omega, lt_succO i2 hcd⟩
           ·dsimp only
            omega
           ·dsimp only
            refine ⟨by rfl, ?_, ?_⟩
            ·refine fin_ ?_
             exact cl_
            ·refine fin_ ?_
             exact cl_
     ·dsimp only at hn ht ha
      obtain ⟨ht0, ht1⟩ := ht
      have ht2 : decide ((0 : Int) ≤ tg) = true := decide_eq_true ht0
      have ht3 : decide (tg < 2305843009213693951) = true := decide_eq_true ht1
      have hnl : nm.length ≤ 60 := name_len hn
      have hgt : decide ((0 : Int) < (i : Int)) = false := decide_eq_false (by omega)
      have hle := hgt
      have hpm := hgt
      have hye := hgt
      have hx := And.intro @hre (And.intro @hn (And.intro @eR.eq_1 hx0))
      refine u_reg ?_
      try refine lg_mk ?_
      refine u_pt ?_
      refine u_ld ?_
      refine u_mv ?_
      refine u_pt ?_
      refine u_pt ?_
      refine u_ld ?_
      have hc := call_rule (E := (E_nameR.at_ 78)) (f := 42) (sp := Spec.pure nameG) rfl
      have hs := @nameG.eq_1
      refine u_cp (hq := by (first | (omega) | exact sd_)) ?_
      refine u_un ?_
      refine lg_nil ?_
      have hx := hx0
      refine h14 _ ?_; clear h14; try clear N14
      refine u_cond (fun hb61 => ?_) (fun hb61 => ?_)
      ·first | omega | exact absurd trivial hb61 | contradiction | (simp_all; done)
      ·refine vc_skip ?_
       try simp only [k_rules]
       refine h13 _ ?_; clear h13; try clear N13
       refine vc_seq_k fun N62 h62 => ?_
       refine vc_seq_k fun N63 h63 => ?_
       have hx := And.intro @hre (And.intro @eR.eq_1 (And.intro @ht2 (And.intro @ht3 hx0)))
       refine u_reg ?_
       try refine lg_mk ?_
       refine u_pt ?_
       refine u_ld ?_
       refine u_mv ?_
       refine u_pt ?_
       refine u_pt ?_
       refine u_ld ?_
       have hc := call_rule (E := (E_nameR.at_ 78)) (f := 43) (sp := Spec.pure isDG) rfl
       have hs := @isDG.eq_1
       refine u_cp ?_
       refine u_un ?_
       refine lg_nil ?_
       have hx := hx0
       refine h63 _ ?_; clear h63; try clear N63
       refine u_cond (fun hb64 => ?_) (fun hb64 => ?_)
       ·first | omega | exact absurd trivial hb64 | contradiction | (simp_all; done)
       ·refine vc_skip ?_
        try simp only [k_rules]
        refine h62 _ ?_; clear h62; try clear N62
        refine vc_seq_k fun N65 h65 => ?_
        refine vc_seq_k fun N66 h66 => ?_
        have hx := And.intro @hre (And.intro @hgt (And.intro @hle (And.intro @hpm (And.intro @hye (And.intro @eR.eq_1 hx0)))))
        refine u_reg ?_
        try refine lg_mk ?_
        refine u_mv ?_
        refine u_bn ?_
        refine u_mv ?_
        refine g_pt ?_
        refine g_ld ?_
        refine g_mv ?_
        refine g_pt ?_
        refine g_pt ?_
        refine g_ld ?_
        refine g_pt ?_
        refine g_ld ?_
        refine g_mv ?_
        refine g_bn ?_
        refine g_pt ?_
        refine g_pt ?_
        refine g_ld ?_
        refine g_bn ?_
        refine u_pk ?_
        refine lg_nil ?_
        have hx := hx0
        refine h66 _ ?_; clear h66; try clear N66
        refine u_cond (fun hb67 => ?_) (fun hb67 => ?_)
        ·first | omega | exact absurd trivial hb67 | contradiction | (simp_all; done)
        ·refine vc_skip ?_
         try simp only [k_rules]
         refine h65 _ ?_; clear h65; try clear N65
         refine vc_seq_k fun N68 h68 => ?_
         refine u_reg ?_
         try refine lg_mk ?_
         refine u_mv ?_
         refine lg_nil ?_
         refine h68 _ ?_; clear h68; try clear N68
         refine vc_block ?_
         refine vc_loop_mk (σ := Nat) (fun s => (fun j => j ≤ i ∧ ∀ y ∈ l.take j, cnfB y.nm nm = false) s)
          (fun s => (fun j => [(1, .ptr 0 0 0), (2, .ptr 1 0 0), (3, .d (.int .i64 (i : Nat))), (4, .d (.int .i64 (j : Nat)))]) s)
          (fun s => (fun j => [some (.one 27 [.d (.sl (rows eR l))]), some (.one 32 [.d (.int .i64 0), .d (.int .i64 0)])]) s) (fun s => (fun j => i - j) s) hnp 0 ?_ [some 0, some 1] ?_ ?_
         ·dsimp only
          exact ⟨by omega, fun y hy => by simp at hy⟩
         ·dsimp only
          refine ⟨by rfl, ?_, ?_⟩
          ·refine fin_ ?_
           exact cl_
          ·refine fin_ ?_
           exact cl_
         ·rintro j hinv N69 h69
          dsimp only at hinv ⊢
          obtain ⟨j1, j2⟩ := hinv
          refine vc_seq_k fun N70 h70 => ?_
          refine vc_seq_k fun N71 h71 => ?_
          refine u_reg ?_
          try refine lg_mk ?_
          refine u_mv ?_
          refine u_mv ?_
          refine u_bn ?_
          refine lg_nil ?_
          refine h71 _ ?_; clear h71; try clear N71
          refine u_cond (fun hb72 => ?_) (fun hb72 => ?_)
          ·obtain ⟨z, hze⟩ := getE (l := l) (i := j) (by omega)
           have hz60 := hns z (List.mem_of_getElem? (i := j) (by rw [List.getElem?_take, if_pos (by omega)]; exact hze))
           obtain ⟨nz, tz⟩ := z
           dsimp only at hz60
           refine vc_skip ?_
           try simp only [k_rules]
           refine h70 _ ?_; clear h70; try clear N70
           refine vc_seq_k fun N73 h73 => ?_
           refine vc_block ?_
           refine vc_seq_k fun N74 h74 => ?_
           have hx := And.intro @hze (And.intro @hre (And.intro @eR.eq_1 hx0))
           refine u_reg ?_
           try refine lg_mk ?_
           refine u_pt ?_
           refine u_ld ?_
           refine u_mv ?_
           refine u_pt ?_
           refine u_pt ?_
           refine u_ld ?_
           refine u_pt ?_
           refine u_ld ?_
           refine u_mv ?_
           refine u_pt ?_
           refine u_pt ?_
           refine u_ld ?_
           have hc := call_rule (E := (E_nameR.at_ 78)) (f := 44) (sp := Spec.pure cnfRG) rfl
           have hs := @cnfRG.eq_1
           refine u_cp (hq := by (first | (first | omega | exact ⟨hz60, by omega⟩) | exact sd_)) ?_
           refine lg_nil ?_
           have hx := hx0
           refine h74 _ ?_; clear h74; try clear N74
           refine u_cond (fun hb75 => ?_) (fun hb75 => ?_)
           ·first | omega | exact absurd trivial hb75 | contradiction | (simp_all; done)
           ·have hnt : cnfB nz nm = false := by simpa using hb75
            refine vc_skip ?_
            try simp only [k_rules]
            refine h73 _ ?_; clear h73; try clear N73
            refine u_reg ?_
            try refine lg_mk ?_
            refine u_mv ?_
            refine u_bn ?_
            refine u_mv ?_
            refine lg_nil ?_
            refine h69 _ ⟨j + 1, ?_, ?_, [some 0, some 1], ?_⟩
            ·dsimp only
             exact ⟨by omega, gall_snoc (P := fun q => cnfB q.nm nm) j2 hze hnt⟩
            ·dsimp only
             omega
            ·dsimp only
             refine ⟨by rfl, ?_, ?_⟩
             ·refine fin_ ?_
              exact cl_
             ·refine fin_ ?_
              exact cl_
          ·refine vc_exit ?_
           simp only [k_rules, Nat.reduceEqDiff, reduceIte, eq_self]
           refine h12 _ ?_; clear h12; try clear N12
           refine u_reg ?_
           try refine lg_mk ?_
           refine u_mv ?_
           refine u_bn ?_
           refine u_mv ?_
           refine lg_nil ?_
           refine h8 _ ⟨i + 1, ?_, ?_, [some 0, some 1], ?_⟩
           ·dsimp only
            exact ⟨by omega, lt_succO i2 hcd⟩
           ·dsimp only
            omega
           ·dsimp only
            refine ⟨by rfl, ?_, ?_⟩
            ·refine fin_ ?_
             exact cl_
            ·refine fin_ ?_
             exact cl_
    ·refine vc_exit ?_
     simp only [k_rules, Nat.reduceEqDiff, reduceIte, eq_self]
     refine h6 _ ?_; clear h6; try clear N6
     refine vc_seq_k fun N76 h76 => ?_
     refine u_reg ?_
     try refine lg_mk ?_
     refine u_bd ?_
     refine u_st ?_
     refine lg_nil ?_
     refine h76 _ ?_; clear h76; try clear N76
     refine vc_ret ?_
     try simp only [k_rules]
     have hr := rfF_ok (l := l) (by omega) (fun j hj => i2 j (by omega))
     rw [hr]
     refine fin2_ ?_
     exact cl_
 ·cases hg

def E_refsR : Env Tryz.prog := E_nameR.add 27 (Spec.pure valRG) refsR_meets (by kernel_rfl)
end Go.Proofs.YtcjipciiljjfhaaGreatDoor
