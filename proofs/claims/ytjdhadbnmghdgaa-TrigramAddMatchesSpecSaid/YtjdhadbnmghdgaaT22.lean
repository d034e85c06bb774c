/- Walks, printed by wip/gen/walk.py. -/
import Derived.Test.YtjdhadbnmghdgaaT21
import Derived.Test.YtjdhadbnmghdgaaV5
set_option linter.all false
set_option maxRecDepth 100000
set_option maxHeartbeats 4000000
namespace Go.Proofs.Ytjdhadbnmghdgaa
open Go Go.Vc Go.RowKit
theorem ixFault_meets : Meets Try.prog 17 (Spec.pure valTG) := by
 refine meets_fun (E_cFor.at_ 113) Try.func17 rfl rfl rfl ?_
 intro args p r hg hp
 unfold valTG at hg
 split at hg
 ·rename_i xs ps
  simp only [Option.some.injEq, Prod.mk.injEq] at hg
  obtain ⟨rfl, rfl⟩ := hg
  obtain ⟨he, hl, he2, hl2, hsm⟩ := hp
  generalize dI xs = l at *
  generalize dP ps = P at *
  subst he he2
  have hT : (E_cFor).X = T := rfl
  have hx0 := And.intro @rect_eP (And.intro @eP_eq (And.intro @dI_rows (And.intro @dec_t (And.intro @dec_f (And.intro @Bool.not_true (And.intro @Bool.not_false @Try.results17))))))
  have hx := hx0
  refine ⟨by rfl, ?_⟩
  intro F W0 hnp hmk
  refine vc_seq_k fun N1 h1 => ?_
  refine u_reg ?_
  try refine lg_mk ?_
  refine u_bx ?_
  refine u_al ?_
  refine lg_nil ?_
  refine h1 _ ?_; clear h1; try clear N1
  refine vc_seq_k fun N2 h2 => ?_
  refine vc_seq_k fun N3 h3 => ?_
  refine u_reg ?_
  try refine lg_mk ?_
  refine u_pt ?_
  refine u_ld ?_
  refine u_ln ?_
  refine u_bn ?_
  refine lg_nil ?_
  refine h3 _ ?_; clear h3; try clear N3
  refine u_cond (fun hb4 => ?_) (fun hb4 => ?_)
  ·refine vc_seq_k fun N5 h5 => ?_
   refine u_reg ?_
   try refine lg_mk ?_
   have hc := call_rule (E := (E_cFor.at_ 113)) (f := 18) (sp := Spec.pure faultG) rfl
   have hs := @faultG.eq_1
   refine u_cp ?_
   refine u_st ?_
   refine lg_nil ?_
   refine h5 _ ?_; clear h5; try clear N5
   refine vc_ret ?_
   try simp only [k_rules]
   have htx : txF l = (2, -1) := by unfold txF; rw [if_pos (by have := hb4; omega)]
   have hr : valF l P = (2, -1) := by unfold valF; rw [if_pos (by rw [htx]; simp), htx]
   rw [hr]
   refine fin2_ ?_
   exact cl_
  ·refine vc_skip ?_
   try simp only [k_rules]
   refine h2 _ ?_; clear h2; try clear N2
   refine vc_seq_k fun N6 h6 => ?_
   refine vc_seq_k fun N7 h7 => ?_
   refine u_reg ?_
   try refine lg_mk ?_
   refine u_mv ?_
   refine lg_nil ?_
   refine h7 _ ?_; clear h7; try clear N7
   refine vc_block ?_
   refine vc_loop_mk (σ := Nat) (fun s => (fun i => i ≤ l.length ∧ ∀ j, j < i → tf l j = 0) s)
    (fun s => (fun i => [(1, .ptr 0 0 0), (2, .ptr 1 0 0), (3, .d (.int .i64 (i : Nat)))]) s)
    (fun s => (fun i => [some (.one 27 [.d (.sl (rows eI l)), .d (.sl (rows eP P))]), some (.one 29 [.d (.int .i64 0), .d (.int .i64 0)])]) s) (fun s => (fun i => l.length - i) s) hnp 0 ?_ [some 0, some 1] ?_ ?_
   ·dsimp only
    exact ⟨by omega, fun j hj => by omega⟩
   ·dsimp only
    refine ⟨by rfl, ?_, ?_⟩
    ·refine fin_ ?_
     exact cl_
    ·refine fin_ ?_
     exact cl_
   ·rintro i hinv N8 h8
    dsimp only at hinv ⊢
    obtain ⟨i1, i2⟩ := hinv
    refine vc_seq_k fun N9 h9 => ?_
    refine vc_seq_k fun N10 h10 => ?_
    refine u_reg ?_
    try refine lg_mk ?_
    refine u_mv ?_
    refine u_pt ?_
    refine u_ld ?_
    refine u_ln ?_
    refine u_bn ?_
    refine lg_nil ?_
    refine h10 _ ?_; clear h10; try clear N10
    refine u_cond (fun hb11 => ?_) (fun hb11 => ?_)
    ·obtain ⟨x, hxe⟩ := getE (l := l) (i := i) (by omega)
     have hxd : l.getD i 0 = x := getD_at hxe
     refine vc_skip ?_
     try simp only [k_rules]
     refine h9 _ ?_; clear h9; try clear N9
     refine vc_seq_k fun N12 h12 => ?_
     refine vc_block ?_
     refine vc_seq_k fun N13 h13 => ?_
     refine vc_seq_k fun N14 h14 => ?_
     have hx := And.intro @hxe (And.intro @eI.eq_1 hx0)
     refine u_reg ?_
     try refine lg_mk ?_
     refine u_pt ?_
     refine u_ld ?_
     refine u_mv ?_
     refine u_pt ?_
     refine u_ld ?_
     have hc := call_rule (E := (E_cFor.at_ 113)) (f := 23) (sp := Spec.pure inG) rfl
     have hs := @inG.eq_1
     refine u_cp ?_
     refine u_un ?_
     refine lg_nil ?_
     have hx := hx0
     refine h14 _ ?_; clear h14; try clear N14
     refine u_cond (fun hb15 => ?_) (fun hb15 => ?_)
     ·have hbad : x < 0 ∨ 20 ≤ x := by have := hb15; (try simp at this); omega
      refine vc_seq_k fun N16 h16 => ?_
      refine u_reg ?_
      try refine lg_mk ?_
      refine u_mv ?_
      refine u_bn ?_
      have hc := call_rule (E := (E_cFor.at_ 113)) (f := 18) (sp := Spec.pure faultG) rfl
      have hs := @faultG.eq_1
      refine u_cp ?_
      refine u_st ?_
      refine lg_nil ?_
      refine h16 _ ?_; clear h16; try clear N16
      refine vc_ret ?_
      try simp only [k_rules]
      have hf : tf l i = 3 := by unfold tf; rw [hxd, if_pos hbad]
      have htx : txF l = (3, -2 - (i : Int)) := by unfold txF; rw [if_neg (by have := hb4; omega), firstF_at (i := i) (by rw [hf]; decide) i2 (by omega), hf]; rfl
      have hr : valF l P = (3, -2 - (i : Int)) := by unfold valF; rw [if_pos (by rw [htx]; simp), htx]
      rw [hr]
      refine fin2_ ?_
      exact cl_
     ·have hgood : ¬ (x < 0 ∨ 20 ≤ x) := by have := hb15; (try simp at this); omega
      refine vc_skip ?_
      try simp only [k_rules]
      refine h13 _ ?_; clear h13; try clear N13
      refine vc_seq_k fun N17 h17 => ?_
      rcases Nat.eq_zero_or_pos i with hi0 | hi0
      ·have hye := hxe
       have hgt : decide ((0 : Int) < (i : Int)) = false := decide_eq_false (by omega)
       have hpm := hxe
       have hx := And.intro @hxe (And.intro @hye (And.intro @hgt (And.intro @hpm (And.intro @eI.eq_1 hx0))))
       refine u_reg ?_
       try refine lg_mk ?_
       refine u_mv ?_
       refine u_bn ?_
       refine u_mv ?_
       refine g_pt ?_
       refine g_ld ?_
       refine g_mv ?_
       refine g_bn ?_
       refine g_pt ?_
       refine g_ld ?_
       refine g_pt ?_
       refine g_ld ?_
       refine g_mv ?_
       refine g_pt ?_
       refine g_ld ?_
       refine g_bn ?_
       refine u_pk ?_
       refine lg_nil ?_
       have hx := hx0
       refine h17 _ ?_; clear h17; try clear N17
       refine u_cond (fun hb18 => ?_) (fun hb18 => ?_)
       ·first | omega | exact absurd trivial hb18 | contradiction | (simp_all; done)
       ·refine vc_skip ?_
        try simp only [k_rules]
        refine h12 _ ?_; clear h12; try clear N12
        refine u_reg ?_
        try refine lg_mk ?_
        refine u_mv ?_
        refine u_bn ?_
        refine u_mv ?_
        refine lg_nil ?_
        refine h8 _ ⟨i + 1, ?_, ?_, [some 0, some 1], ?_⟩
        ·dsimp only
         exact ⟨by omega, lt_succF i2 (by unfold tf; rw [hxd, if_neg hgood]; first | rfl | (rw [if_neg (by omega)]; done) | (rw [hyd, if_neg (by have := hb18; (try simp at this); omega)]; done))⟩
        ·dsimp only
         omega
        ·dsimp only
         refine ⟨by rfl, ?_, ?_⟩
         ·refine fin_ ?_
          exact cl_
         ·refine fin_ ?_
          exact cl_
      ·obtain ⟨y, hye⟩ := getE (l := l) (i := i - 1) (by omega)
       have hpm : ((i : Int) - 1).toNat = i - 1 := by omega
       have hgt : decide ((0 : Int) < (i : Int)) = true := decide_eq_true (by omega)
       have hyd : l.getD (i - 1) 0 = y := getD_at hye
       have hx := And.intro @hxe (And.intro @hye (And.intro @hgt (And.intro @hpm (And.intro @eI.eq_1 hx0))))
       refine u_reg ?_
       try refine lg_mk ?_
       refine u_mv ?_
       refine u_bn ?_
       refine u_mv ?_
       refine g_pt ?_
       refine g_ld ?_
       refine g_mv ?_
       refine g_bn ?_
       refine g_pt ?_
       refine g_ld ?_
       refine g_pt ?_
       refine g_ld ?_
       refine g_mv ?_
       refine g_pt ?_
       refine g_ld ?_
       refine g_bn ?_
       refine u_pk ?_
       refine lg_nil ?_
       have hx := hx0
       refine h17 _ ?_; clear h17; try clear N17
       refine u_cond (fun hb19 => ?_) (fun hb19 => ?_)
       ·refine vc_seq_k fun N20 h20 => ?_
        refine u_reg ?_
        try refine lg_mk ?_
        refine u_mv ?_
        refine u_bn ?_
        have hc := call_rule (E := (E_cFor.at_ 113)) (f := 18) (sp := Spec.pure faultG) rfl
        have hs := @faultG.eq_1
        refine u_cp ?_
        refine u_st ?_
        refine lg_nil ?_
        refine h20 _ ?_; clear h20; try clear N20
        refine vc_ret ?_
        try simp only [k_rules]
        have hf : tf l i = 5 := by unfold tf; rw [hxd, hyd, if_neg hgood, if_pos ⟨by omega, by have := hb19; (try simp at this); omega⟩]
        have htx : txF l = (5, -2 - (i : Int)) := by unfold txF; rw [if_neg (by have := hb4; omega), firstF_at (i := i) (by rw [hf]; decide) i2 (by omega), hf]; rfl
        have hr : valF l P = (5, -2 - (i : Int)) := by unfold valF; rw [if_pos (by rw [htx]; simp), htx]
        rw [hr]
        refine fin2_ ?_
        exact cl_
       ·refine vc_skip ?_
        try simp only [k_rules]
        refine h12 _ ?_; clear h12; try clear N12
        refine u_reg ?_
        try refine lg_mk ?_
        refine u_mv ?_
        refine u_bn ?_
        refine u_mv ?_
        refine lg_nil ?_
        refine h8 _ ⟨i + 1, ?_, ?_, [some 0, some 1], ?_⟩
        ·dsimp only
         exact ⟨by omega, lt_succF i2 (by unfold tf; rw [hxd, if_neg hgood]; first | rfl | (rw [if_neg (by omega)]; done) | (rw [hyd, if_neg (by have := hb19; (try simp at this); omega)]; done))⟩
        ·dsimp only
         omega
        ·dsimp only
         refine ⟨by rfl, ?_, ?_⟩
         ·refine fin_ ?_
          exact cl_
         ·refine fin_ ?_
          exact cl_
    ·have htx : txF l = (0, 0) := by unfold txF; rw [if_neg (by have := hb4; omega), firstF_none (fun j hj => i2 j (by omega))]
     clear i2
     refine vc_exit ?_
     simp only [k_rules, Nat.reduceEqDiff, reduceIte, eq_self]
     refine h6 _ ?_; clear h6; try clear N6
     refine vc_seq_k fun N21 h21 => ?_
     refine vc_seq_k fun N22 h22 => ?_
     refine u_reg ?_
     try refine lg_mk ?_
     refine u_mv ?_
     refine lg_nil ?_
     refine h22 _ ?_; clear h22; try clear N22
     refine vc_block ?_
     refine vc_loop_mk (σ := Nat) (fun s => (fun i => i ≤ P.length ∧ ∀ j, j < i → pfT l P j = 0) s)
      (fun s => (fun i => [(1, .ptr 0 0 0), (2, .ptr 1 0 0), (4, .d (.int .i64 (i : Nat)))]) s)
      (fun s => (fun i => [some (.one 27 [.d (.sl (rows eI l)), .d (.sl (rows eP P))]), some (.one 29 [.d (.int .i64 0), .d (.int .i64 0)])]) s) (fun s => (fun i => P.length - i) s) hnp 0 ?_ [some 0, some 1] ?_ ?_
     ·dsimp only
      exact ⟨by omega, fun j hj => by omega⟩
     ·dsimp only
      refine ⟨by rfl, ?_, ?_⟩
      ·refine fin_ ?_
       exact cl_
      ·refine fin_ ?_
       exact cl_
     ·rintro i hinv N23 h23
      dsimp only at hinv ⊢
      obtain ⟨i1, i2⟩ := hinv
      refine vc_seq_k fun N24 h24 => ?_
      refine vc_seq_k fun N25 h25 => ?_
      refine u_reg ?_
      try refine lg_mk ?_
      refine u_mv ?_
      refine u_pt ?_
      refine u_ld ?_
      refine u_ln ?_
      refine u_bn ?_
      refine lg_nil ?_
      refine h25 _ ?_; clear h25; try clear N25
      refine u_cond (fun hb26 => ?_) (fun hb26 => ?_)
      ·obtain ⟨p, hpe⟩ := getE (l := P) (i := i) (by omega)
       obtain ⟨g, t⟩ := p
       have hxe : P[i]? = some (g, t) := hpe
       have hxd : P.getD i ([], []) = (g, t) := getD_at hxe
       have hsb := hsm _ (mem_at hxe)
       have hgl : g.length ≤ 9223372036854775807 := hsb.1
       have htl : t.length ≤ 9223372036854775807 := hsb.2
       clear hsb
       refine vc_skip ?_
       try simp only [k_rules]
       refine h24 _ ?_; clear h24; try clear N24
       refine vc_seq_k fun N27 h27 => ?_
       refine vc_block ?_
       refine vc_seq_k fun N28 h28 => ?_
       have hx := And.intro @hxe hx0
       refine u_reg ?_
       try refine lg_mk ?_
       refine u_pt ?_
       refine u_ld ?_
       refine u_mv ?_
       refine u_pt ?_
       refine u_ld ?_
       refine u_al ?_
       refine u_st ?_
       refine lg_nil ?_
       have hx := hx0
       refine h28 _ ?_; clear h28; try clear N28
       refine vc_seq_k fun N29 h29 => ?_
       refine vc_seq_k fun N30 h30 => ?_
       refine u_reg ?_
       try refine lg_mk ?_
       refine u_pt ?_
       refine u_ld ?_
       refine u_ln ?_
       refine u_bn ?_
       refine lg_nil ?_
       refine h30 _ ?_; clear h30; try clear N30
       refine u_cond (fun hb31 => ?_) (fun hb31 => ?_)
       ·refine vc_seq_k fun N32 h32 => ?_
        refine u_reg ?_
        try refine lg_mk ?_
        refine u_mv ?_
        have hc := call_rule (E := (E_cFor.at_ 113)) (f := 18) (sp := Spec.pure faultG) rfl
        have hs := @faultG.eq_1
        refine u_cp ?_
        refine u_st ?_
        refine lg_nil ?_
        refine h32 _ ?_; clear h32; try clear N32
        refine vc_ret ?_
        try simp only [k_rules]
        have hf : pfT l P i = 9 := by unfold pfT; rw [hxd, if_pos (by show g.length ≠ 3; have := hb31; omega)]
        have hr : valF l P = (9, (i : Int)) := by unfold valF; rw [if_neg (by rw [htx]; simp), firstF_at (i := i) (by rw [hf]; decide) i2 (by omega), hf]
        rw [hr]
        refine fin2_ ?_
        exact cl_
       ·refine vc_skip ?_
        try simp only [k_rules]
        refine h29 _ ?_; clear h29; try clear N29
        refine vc_seq_k fun N33 h33 => ?_
        refine vc_seq_k fun N34 h34 => ?_
        rcases five P i g t with hc5 | hc5 | hc5 | hc5 | hc5
        ·obtain ⟨hi0, hlt⟩ := hc5
         obtain ⟨q, hqe⟩ := getE (l := P) (i := i - 1) (by omega)
         obtain ⟨gy, ty⟩ := q
         have hye : P[i - 1]? = some (gy, ty) := hqe
         have hyd : P.getD (i - 1) ([], []) = (gy, ty) := getD_at hye
         have hpm : ((i : Int) - 1).toNat = i - 1 := by omega
         have hgt : decide ((0 : Int) < (i : Int)) = true := decide_eq_true (by omega)
         rw [hyd] at hlt
         have hle : Op.bytesLess gy g = false := hlt
         have hln := hxe
         have hx := And.intro @hye (And.intro @hgt (And.intro @hpm (And.intro @hle (And.intro @hln hx0))))
         refine u_reg ?_
         try refine lg_mk ?_
         refine u_mv ?_
         refine u_bn ?_
         refine u_mv ?_
         refine g_pt ?_
         refine g_ld ?_
         refine g_mv ?_
         refine g_bn ?_
         refine g_pt ?_
         refine g_pt ?_
         refine g_ld ?_
         refine g_pt ?_
         refine g_ld ?_
         refine g_bn ?_
         refine u_pk ?_
         refine u_mv ?_
         refine g_pt ?_
         refine g_ld ?_
         refine g_ln ?_
         refine g_bn ?_
         refine u_pk ?_
         refine u_mv ?_
         refine g_pt ?_
         refine g_ld ?_
         have hc := call_rule (E := (E_cFor.at_ 113)) (f := 40) (sp := Spec.pure incTG) rfl
         have hs := @incTG.eq_1
         refine g_cp ?_
         refine g_un ?_
         refine u_pk ?_
         refine lg_nil ?_
         have hx := hx0
         refine h34 _ ?_; clear h34; try clear N34
         refine u_cond (fun hb35 => ?_) (fun hb35 => ?_)
         ·refine vc_seq_k fun N36 h36 => ?_
          refine u_reg ?_
          try refine lg_mk ?_
          refine u_mv ?_
          have hc := call_rule (E := (E_cFor.at_ 113)) (f := 18) (sp := Spec.pure faultG) rfl
          have hs := @faultG.eq_1
          refine u_cp ?_
          refine u_st ?_
          refine lg_nil ?_
          refine h36 _ ?_; clear h36; try clear N36
          refine vc_ret ?_
          try simp only [k_rules]
          have hg3 : g.length = 3 := by have := hb31; omega
          have hf : pfT l P i = 5 := by unfold pfT; rw [hxd, if_neg (by show ¬ g.length ≠ 3; omega), if_pos (by first | exact Or.inl ⟨hi0, by rw [hyd]; exact hlt⟩ | exact Or.inr (Or.inl rfl) | exact Or.inr (Or.inr (by have := hb35; simpa using this)))]
          have hr : valF l P = (5, (i : Int)) := by unfold valF; rw [if_neg (by rw [htx]; simp), firstF_at (i := i) (by rw [hf]; decide) i2 (by omega), hf]
          rw [hr]
          refine fin2_ ?_
          exact cl_
         ·first | omega | exact absurd trivial hb35 | contradiction | (simp_all; done)
        ·obtain ⟨hi0, hte⟩ := hc5
         have hgt : decide ((0 : Int) < (i : Int)) = false := decide_eq_false (by omega)
         have hye := hxe
         have hpm := hxe
         have hle := hxe
         subst hte
         have hln : decide ((([] : List Int).length : Int) < 1) = true := rfl
         have hln2 := hxe
         have hx := And.intro @hye (And.intro @hgt (And.intro @hpm (And.intro @hle (And.intro @hln hx0))))
         refine u_reg ?_
         try refine lg_mk ?_
         refine u_mv ?_
         refine u_bn ?_
         refine u_mv ?_
         refine g_pt ?_
         refine g_ld ?_
         refine g_mv ?_
         refine g_bn ?_
         refine g_pt ?_
         refine g_pt ?_
         refine g_ld ?_
         refine g_pt ?_
         refine g_ld ?_
         refine g_bn ?_
         refine u_pk ?_
         refine u_mv ?_
         refine g_pt ?_
         refine g_ld ?_
         refine g_ln ?_
         refine g_bn ?_
         refine u_pk ?_
         refine u_mv ?_
         refine g_pt ?_
         refine g_ld ?_
         have hc := call_rule (E := (E_cFor.at_ 113)) (f := 40) (sp := Spec.pure incTG) rfl
         have hs := @incTG.eq_1
         refine g_cp ?_
         refine g_un ?_
         refine u_pk ?_
         refine lg_nil ?_
         have hx := hx0
         refine h34 _ ?_; clear h34; try clear N34
         refine u_cond (fun hb37 => ?_) (fun hb37 => ?_)
         ·refine vc_seq_k fun N38 h38 => ?_
          refine u_reg ?_
          try refine lg_mk ?_
          refine u_mv ?_
          have hc := call_rule (E := (E_cFor.at_ 113)) (f := 18) (sp := Spec.pure faultG) rfl
          have hs := @faultG.eq_1
          refine u_cp ?_
          refine u_st ?_
          refine lg_nil ?_
          refine h38 _ ?_; clear h38; try clear N38
          refine vc_ret ?_
          try simp only [k_rules]
          have hg3 : g.length = 3 := by have := hb31; omega
          have hf : pfT l P i = 5 := by unfold pfT; rw [hxd, if_neg (by show ¬ g.length ≠ 3; omega), if_pos (by first | exact Or.inl ⟨hi0, by rw [hyd]; exact hlt⟩ | exact Or.inr (Or.inl rfl) | exact Or.inr (Or.inr (by have := hb37; simpa using this)))]
          have hr : valF l P = (5, (i : Int)) := by unfold valF; rw [if_neg (by rw [htx]; simp), firstF_at (i := i) (by rw [hf]; decide) i2 (by omega), hf]
          rw [hr]
          refine fin2_ ?_
          exact cl_
         ·first | omega | exact absurd trivial hb37 | contradiction | (simp_all; done)
        ·obtain ⟨hi0, hte⟩ := hc5
         have hgt : decide ((0 : Int) < (i : Int)) = false := decide_eq_false (by omega)
         have hye := hxe
         have hpm := hxe
         have hle := hxe
         have hln : decide ((t.length : Int) < 1) = false := decide_eq_false (fun h => hte (List.eq_nil_of_length_eq_zero (by omega)))
         have hln2 := hxe
         have hx := And.intro @hye (And.intro @hgt (And.intro @hpm (And.intro @hle (And.intro @hln hx0))))
         refine u_reg ?_
         try refine lg_mk ?_
         refine u_mv ?_
         refine u_bn ?_
         refine u_mv ?_
         refine g_pt ?_
         refine g_ld ?_
         refine g_mv ?_
         refine g_bn ?_
         refine g_pt ?_
         refine g_pt ?_
         refine g_ld ?_
         refine g_pt ?_
         refine g_ld ?_
         refine g_bn ?_
         refine u_pk ?_
         refine u_mv ?_
         refine g_pt ?_
         refine g_ld ?_
         refine g_ln ?_
         refine g_bn ?_
         refine u_pk ?_
         refine u_mv ?_
         refine g_pt ?_
         refine g_ld ?_
         have hc := call_rule (E := (E_cFor.at_ 113)) (f := 40) (sp := Spec.pure incTG) rfl
         have hs := @incTG.eq_1
         refine g_cp ?_
         refine g_un ?_
         refine u_pk ?_
         refine lg_nil ?_
         have hx := hx0
         refine h34 _ ?_; clear h34; try clear N34
         refine u_cond (fun hb39 => ?_) (fun hb39 => ?_)
         ·refine vc_seq_k fun N40 h40 => ?_
          refine u_reg ?_
          try refine lg_mk ?_
          refine u_mv ?_
          have hc := call_rule (E := (E_cFor.at_ 113)) (f := 18) (sp := Spec.pure faultG) rfl
          have hs := @faultG.eq_1
          refine u_cp ?_
          refine u_st ?_
          refine lg_nil ?_
          refine h40 _ ?_; clear h40; try clear N40
          refine vc_ret ?_
          try simp only [k_rules]
          have hg3 : g.length = 3 := by have := hb31; omega
          have hf : pfT l P i = 5 := by unfold pfT; rw [hxd, if_neg (by show ¬ g.length ≠ 3; omega), if_pos (by first | exact Or.inl ⟨hi0, by rw [hyd]; exact hlt⟩ | exact Or.inr (Or.inl rfl) | exact Or.inr (Or.inr (by have := hb39; simpa using this)))]
          have hr : valF l P = (5, (i : Int)) := by unfold valF; rw [if_neg (by rw [htx]; simp), firstF_at (i := i) (by rw [hf]; decide) i2 (by omega), hf]
          rw [hr]
          refine fin2_ ?_
          exact cl_
         ·refine vc_skip ?_
          try simp only [k_rules]
          refine h33 _ ?_; clear h33; try clear N33
          refine vc_seq_k fun N41 h41 => ?_
          have hx := And.intro @dI_rows hx0
          refine u_reg ?_
          try refine lg_mk ?_
          refine u_mv ?_
          refine lg_nil ?_
          have hx := hx0
          refine h41 _ ?_; clear h41; try clear N41
          refine vc_block ?_
          refine vc_loop_mk (σ := Nat) (fun s => (fun k => k ≤ t.length ∧ ∀ y ∈ t.take k, outB l y = false) s)
           (fun s => (fun k => [(1, .ptr 0 0 0), (2, .ptr 1 0 0), (4, .d (.int .i64 (i : Nat))), (5, .ptr 2 0 0), (6, .d (.int .i64 (k : Nat)))]) s)
           (fun s => (fun k => [some (.one 27 [.d (.sl (rows eI l)), .d (.sl (rows eP P))]), some (.one 29 [.d (.int .i64 0), .d (.int .i64 0)]), some (.one 55 [.d (.str g), .d (.sl (rows eI t))])]) s) (fun s => (fun k => t.length - k) s) hnp 0 ?_ [some 0, some 1, some 2] ?_ ?_
          ·dsimp only
           simp
          ·dsimp only
           refine ⟨by rfl, ?_, ?_⟩
           ·refine fin_ ?_
            exact cl_
           ·refine fin_ ?_
            exact cl_
          ·rintro k hinv N42 h42
           dsimp only at hinv ⊢
           obtain ⟨k1, k2⟩ := hinv
           refine vc_seq_k fun N43 h43 => ?_
           refine vc_seq_k fun N44 h44 => ?_
           refine u_reg ?_
           try refine lg_mk ?_
           refine u_mv ?_
           refine u_pt ?_
           refine u_ld ?_
           refine u_ln ?_
           refine u_bn ?_
           refine lg_nil ?_
           refine h44 _ ?_; clear h44; try clear N44
           refine u_cond (fun hb45 => ?_) (fun hb45 => ?_)
           ·obtain ⟨y, hye⟩ := getE (l := t) (i := k) (by omega)
            refine vc_skip ?_
            try simp only [k_rules]
            refine h43 _ ?_; clear h43; try clear N43
            refine vc_seq_k fun N46 h46 => ?_
            refine vc_block ?_
            refine vc_seq_k fun N47 h47 => ?_
            have hx := And.intro @hye (And.intro @eI.eq_1 hx0)
            refine u_reg ?_
            try refine lg_mk ?_
            refine u_pt ?_
            refine u_ld ?_
            refine u_pt ?_
            refine u_ld ?_
            refine u_mv ?_
            refine u_pt ?_
            refine u_ld ?_
            have hc := call_rule (E := (E_cFor.at_ 113)) (f := 22) (sp := Spec.pure hasG) rfl
            have hs := @hasG.eq_1
            refine u_cp ?_
            refine u_un ?_
            refine lg_nil ?_
            have hx := hx0
            refine h47 _ ?_; clear h47; try clear N47
            refine u_cond (fun hb48 => ?_) (fun hb48 => ?_)
            ·refine vc_seq_k fun N49 h49 => ?_
             refine u_reg ?_
             try refine lg_mk ?_
             refine u_mv ?_
             have hc := call_rule (E := (E_cFor.at_ 113)) (f := 18) (sp := Spec.pure faultG) rfl
             have hs := @faultG.eq_1
             refine u_cp ?_
             refine u_st ?_
             refine lg_nil ?_
             refine h49 _ ?_; clear h49; try clear N49
             refine vc_ret ?_
             try simp only [k_rules]
             have hg3 : g.length = 3 := by have := hb31; omega
             have h5 : ¬ ((0 < i ∧ blt (P.getD (i - 1) ([], [])).1 g = false) ∨ t = [] ∨ incB t = false) := by
              have hinc : incB t = true := by have := hb39; simpa using this
              rintro (⟨h1, h2⟩ | h | h)
              ·first | omega | (rw [hyd] at h2; rw [hlt] at h2; cases h2)
              ·exact hte h
              ·rw [hinc] at h; cases h
             have hsub : t.any (outB l) = true := List.any_eq_true.2 ⟨y, mem_at hye, by unfold outB; have := hb48; simpa using this⟩
             have hf : pfT l P i = 6 := by unfold pfT; rw [hxd, if_neg (by show ¬ g.length ≠ 3; omega), if_neg h5, if_pos hsub]
             have hr : valF l P = (6, (i : Int)) := by unfold valF; rw [if_neg (by rw [htx]; simp), firstF_at (i := i) (by rw [hf]; decide) i2 (by omega), hf]
             rw [hr]
             refine fin2_ ?_
             exact cl_
            ·refine vc_skip ?_
             try simp only [k_rules]
             refine h46 _ ?_; clear h46; try clear N46
             refine u_reg ?_
             try refine lg_mk ?_
             refine u_mv ?_
             refine u_bn (hq := by (first | (first | omega | (unfold inI64; omega)) | exact sd_)) ?_
             refine u_mv ?_
             refine lg_nil ?_
             refine h42 _ ⟨k + 1, ?_, ?_, [some 0, some 1, some 2], ?_⟩
             ·dsimp only
              exact ⟨by omega, all_false_snoc k2 hye (by unfold outB; have := hb48; simpa using this)⟩
             ·dsimp only
              omega
             ·dsimp only
              refine ⟨by rfl, ?_, ?_⟩
              ·refine fin_ ?_
               exact cl_
              ·refine fin_ ?_
               exact cl_
           ·obtain rfl : k = t.length := by omega
            refine vc_exit ?_
            simp only [k_rules, Nat.reduceEqDiff, reduceIte, eq_self]
            refine h27 _ ?_; clear h27; try clear N27
            refine u_reg ?_
            try refine lg_mk ?_
            refine u_mv ?_
            refine u_bn ?_
            refine u_mv ?_
            refine lg_nil ?_
            have hg3 : g.length = 3 := by have := hb31; omega
            have h5 : ¬ ((0 < i ∧ blt (P.getD (i - 1) ([], [])).1 g = false) ∨ t = [] ∨ incB t = false) := by
             have hinc : incB t = true := by have := hb39; simpa using this
             rintro (⟨h1, h2⟩ | h | h)
             ·first | omega | (rw [hyd] at h2; rw [hlt] at h2; cases h2)
             ·exact hte h
             ·rw [hinc] at h; cases h
            have hsub : ¬ t.any (outB l) = true := fun h => by
             obtain ⟨y, hy, hb⟩ := List.any_eq_true.1 h
             rw [k2 y (by rw [List.take_length]; exact hy)] at hb; cases hb
            have hf : pfT l P i = 0 := by unfold pfT; rw [hxd, if_neg (by show ¬ g.length ≠ 3; omega), if_neg h5, if_neg hsub]
            refine h23 _ ⟨i + 1, ?_, ?_, [some 0, some 1], ?_⟩
            ·dsimp only
             exact ⟨by omega, lt_succF i2 hf⟩
            ·dsimp only
             omega
            ·dsimp only
             refine ⟨by rfl, ?_, ?_⟩
             ·refine fin_ ?_
              exact cl_
             ·refine fin_ ?_
              exact cl_
        ·obtain ⟨hi0, hlt, hte⟩ := hc5
         obtain ⟨q, hqe⟩ := getE (l := P) (i := i - 1) (by omega)
         obtain ⟨gy, ty⟩ := q
         have hye : P[i - 1]? = some (gy, ty) := hqe
         have hyd : P.getD (i - 1) ([], []) = (gy, ty) := getD_at hye
         have hpm : ((i : Int) - 1).toNat = i - 1 := by omega
         have hgt : decide ((0 : Int) < (i : Int)) = true := decide_eq_true (by omega)
         rw [hyd] at hlt
         have hle : Op.bytesLess gy g = true := hlt
         subst hte
         have hln : decide ((([] : List Int).length : Int) < 1) = true := rfl
         have hln2 := hxe
         have hx := And.intro @hye (And.intro @hgt (And.intro @hpm (And.intro @hle (And.intro @hln hx0))))
         refine u_reg ?_
         try refine lg_mk ?_
         refine u_mv ?_
         refine u_bn ?_
         refine u_mv ?_
         refine g_pt ?_
         refine g_ld ?_
         refine g_mv ?_
         refine g_bn ?_
         refine g_pt ?_
         refine g_pt ?_
         refine g_ld ?_
         refine g_pt ?_
         refine g_ld ?_
         refine g_bn ?_
         refine u_pk ?_
         refine u_mv ?_
         refine g_pt ?_
         refine g_ld ?_
         refine g_ln ?_
         refine g_bn ?_
         refine u_pk ?_
         refine u_mv ?_
         refine g_pt ?_
         refine g_ld ?_
         have hc := call_rule (E := (E_cFor.at_ 113)) (f := 40) (sp := Spec.pure incTG) rfl
         have hs := @incTG.eq_1
         refine g_cp ?_
         refine g_un ?_
         refine u_pk ?_
         refine lg_nil ?_
         have hx := hx0
         refine h34 _ ?_; clear h34; try clear N34
         refine u_cond (fun hb50 => ?_) (fun hb50 => ?_)
         ·refine vc_seq_k fun N51 h51 => ?_
          refine u_reg ?_
          try refine lg_mk ?_
          refine u_mv ?_
          have hc := call_rule (E := (E_cFor.at_ 113)) (f := 18) (sp := Spec.pure faultG) rfl
          have hs := @faultG.eq_1
          refine u_cp ?_
          refine u_st ?_
          refine lg_nil ?_
          refine h51 _ ?_; clear h51; try clear N51
          refine vc_ret ?_
          try simp only [k_rules]
          have hg3 : g.length = 3 := by have := hb31; omega
          have hf : pfT l P i = 5 := by unfold pfT; rw [hxd, if_neg (by show ¬ g.length ≠ 3; omega), if_pos (by first | exact Or.inl ⟨hi0, by rw [hyd]; exact hlt⟩ | exact Or.inr (Or.inl rfl) | exact Or.inr (Or.inr (by have := hb50; simpa using this)))]
          have hr : valF l P = (5, (i : Int)) := by unfold valF; rw [if_neg (by rw [htx]; simp), firstF_at (i := i) (by rw [hf]; decide) i2 (by omega), hf]
          rw [hr]
          refine fin2_ ?_
          exact cl_
         ·first | omega | exact absurd trivial hb50 | contradiction | (simp_all; done)
        ·obtain ⟨hi0, hlt, hte⟩ := hc5
         obtain ⟨q, hqe⟩ := getE (l := P) (i := i - 1) (by omega)
         obtain ⟨gy, ty⟩ := q
         have hye : P[i - 1]? = some (gy, ty) := hqe
         have hyd : P.getD (i - 1) ([], []) = (gy, ty) := getD_at hye
         have hpm : ((i : Int) - 1).toNat = i - 1 := by omega
         have hgt : decide ((0 : Int) < (i : Int)) = true := decide_eq_true (by omega)
         rw [hyd] at hlt
         have hle : Op.bytesLess gy g = true := hlt
         have hln : decide ((t.length : Int) < 1) = false := decide_eq_false (fun h => hte (List.eq_nil_of_length_eq_zero (by omega)))
         have hln2 := hxe
         have hx := And.intro @hye (And.intro @hgt (And.intro @hpm (And.intro @hle (And.intro @hln hx0))))
         refine u_reg ?_
         try refine lg_mk ?_
         refine u_mv ?_
         refine u_bn ?_
         refine u_mv ?_
         refine g_pt ?_
         refine g_ld ?_
         refine g_mv ?_
         refine g_bn ?_
         refine g_pt ?_
         refine g_pt ?_
         refine g_ld ?_
         refine g_pt ?_
         refine g_ld ?_
         refine g_bn ?_
         refine u_pk ?_
         refine u_mv ?_
         refine g_pt ?_
         refine g_ld ?_
         refine g_ln ?_
         refine g_bn ?_
         refine u_pk ?_
         refine u_mv ?_
         refine g_pt ?_
         refine g_ld ?_
         have hc := call_rule (E := (E_cFor.at_ 113)) (f := 40) (sp := Spec.pure incTG) rfl
         have hs := @incTG.eq_1
         refine g_cp ?_
         refine g_un ?_
         refine u_pk ?_
         refine lg_nil ?_
         have hx := hx0
         refine h34 _ ?_; clear h34; try clear N34
         refine u_cond (fun hb52 => ?_) (fun hb52 => ?_)
         ·refine vc_seq_k fun N53 h53 => ?_
          refine u_reg ?_
          try refine lg_mk ?_
          refine u_mv ?_
          have hc := call_rule (E := (E_cFor.at_ 113)) (f := 18) (sp := Spec.pure faultG) rfl
          have hs := @faultG.eq_1
          refine u_cp ?_
          refine u_st ?_
          refine lg_nil ?_
          refine h53 _ ?_; clear h53; try clear N53
          refine vc_ret ?_
          try simp only [k_rules]
          have hg3 : g.length = 3 := by have := hb31; omega
          have hf : pfT l P i = 5 := by unfold pfT; rw [hxd, if_neg (by show ¬ g.length ≠ 3; omega), if_pos (by first | exact Or.inl ⟨hi0, by rw [hyd]; exact hlt⟩ | exact Or.inr (Or.inl rfl) | exact Or.inr (Or.inr (by have := hb52; simpa using this)))]
          have hr : valF l P = (5, (i : Int)) := by unfold valF; rw [if_neg (by rw [htx]; simp), firstF_at (i := i) (by rw [hf]; decide) i2 (by omega), hf]
          rw [hr]
          refine fin2_ ?_
          exact cl_
         ·refine vc_skip ?_
          try simp only [k_rules]
          refine h33 _ ?_; clear h33; try clear N33
          refine vc_seq_k fun N54 h54 => ?_
          have hx := And.intro @dI_rows hx0
          refine u_reg ?_
          try refine lg_mk ?_
          refine u_mv ?_
          refine lg_nil ?_
          have hx := hx0
          refine h54 _ ?_; clear h54; try clear N54
          refine vc_block ?_
          refine vc_loop_mk (σ := Nat) (fun s => (fun k => k ≤ t.length ∧ ∀ y ∈ t.take k, outB l y = false) s)
           (fun s => (fun k => [(1, .ptr 0 0 0), (2, .ptr 1 0 0), (4, .d (.int .i64 (i : Nat))), (5, .ptr 2 0 0), (6, .d (.int .i64 (k : Nat)))]) s)
           (fun s => (fun k => [some (.one 27 [.d (.sl (rows eI l)), .d (.sl (rows eP P))]), some (.one 29 [.d (.int .i64 0), .d (.int .i64 0)]), some (.one 55 [.d (.str g), .d (.sl (rows eI t))])]) s) (fun s => (fun k => t.length - k) s) hnp 0 ?_ [some 0, some 1, some 2] ?_ ?_
          ·dsimp only
           simp
          ·dsimp only
           refine ⟨by rfl, ?_, ?_⟩
           ·refine fin_ ?_
            exact cl_
           ·refine fin_ ?_
            exact cl_
          ·rintro k hinv N55 h55
           dsimp only at hinv ⊢
           obtain ⟨k1, k2⟩ := hinv
           refine vc_seq_k fun N56 h56 => ?_
           refine vc_seq_k fun N57 h57 => ?_
           refine u_reg ?_
           try refine lg_mk ?_
           refine u_mv ?_
           refine u_pt ?_
           refine u_ld ?_
           refine u_ln ?_
           refine u_bn ?_
           refine lg_nil ?_
           refine h57 _ ?_; clear h57; try clear N57
           refine u_cond (fun hb58 => ?_) (fun hb58 => ?_)
           ·obtain ⟨y, hye⟩ := getE (l := t) (i := k) (by omega)
            refine vc_skip ?_
            try simp only [k_rules]
            refine h56 _ ?_; clear h56; try clear N56
            refine vc_seq_k fun N59 h59 => ?_
            refine vc_block ?_
            refine vc_seq_k fun N60 h60 => ?_
            have hx := And.intro @hye (And.intro @eI.eq_1 hx0)
            refine u_reg ?_
            try refine lg_mk ?_
            refine u_pt ?_
            refine u_ld ?_
            refine u_pt ?_
            refine u_ld ?_
            refine u_mv ?_
            refine u_pt ?_
            refine u_ld ?_
            have hc := call_rule (E := (E_cFor.at_ 113)) (f := 22) (sp := Spec.pure hasG) rfl
            have hs := @hasG.eq_1
            refine u_cp ?_
            refine u_un ?_
            refine lg_nil ?_
            have hx := hx0
            refine h60 _ ?_; clear h60; try clear N60
            refine u_cond (fun hb61 => ?_) (fun hb61 => ?_)
            ·refine vc_seq_k fun N62 h62 => ?_
             refine u_reg ?_
             try refine lg_mk ?_
             refine u_mv ?_
             have hc := call_rule (E := (E_cFor.at_ 113)) (f := 18) (sp := Spec.pure faultG) rfl
             have hs := @faultG.eq_1
             refine u_cp ?_
             refine u_st ?_
             refine lg_nil ?_
             refine h62 _ ?_; clear h62; try clear N62
             refine vc_ret ?_
             try simp only [k_rules]
             have hg3 : g.length = 3 := by have := hb31; omega
             have h5 : ¬ ((0 < i ∧ blt (P.getD (i - 1) ([], [])).1 g = false) ∨ t = [] ∨ incB t = false) := by
              have hinc : incB t = true := by have := hb52; simpa using this
              rintro (⟨h1, h2⟩ | h | h)
              ·first | omega | (rw [hyd] at h2; rw [hlt] at h2; cases h2)
              ·exact hte h
              ·rw [hinc] at h; cases h
             have hsub : t.any (outB l) = true := List.any_eq_true.2 ⟨y, mem_at hye, by unfold outB; have := hb61; simpa using this⟩
             have hf : pfT l P i = 6 := by unfold pfT; rw [hxd, if_neg (by show ¬ g.length ≠ 3; omega), if_neg h5, if_pos hsub]
             have hr : valF l P = (6, (i : Int)) := by unfold valF; rw [if_neg (by rw [htx]; simp), firstF_at (i := i) (by rw [hf]; decide) i2 (by omega), hf]
             rw [hr]
             refine fin2_ ?_
             exact cl_
            ·refine vc_skip ?_
             try simp only [k_rules]
             refine h59 _ ?_; clear h59; try clear N59
             refine u_reg ?_
             try refine lg_mk ?_
             refine u_mv ?_
             refine u_bn (hq := by (first | (first | omega | (unfold inI64; omega)) | exact sd_)) ?_
             refine u_mv ?_
             refine lg_nil ?_
             refine h55 _ ⟨k + 1, ?_, ?_, [some 0, some 1, some 2], ?_⟩
             ·dsimp only
              exact ⟨by omega, all_false_snoc k2 hye (by unfold outB; have := hb61; simpa using this)⟩
             ·dsimp only
              omega
             ·dsimp only
              refine ⟨by rfl, ?_, ?_⟩
              ·refine fin_ ?_
               exact cl_
              ·refine fin_ ?_
               exact cl_
           ·obtain rfl : k = t.length := by omega
            refine vc_exit ?_
            simp only [k_rules, Nat.reduceEqDiff, reduceIte, eq_self]
            refine h27 _ ?_; clear h27; try clear N27
            refine u_reg ?_
            try refine lg_mk ?_
            refine u_mv ?_
            refine u_bn ?_
            refine u_mv ?_
            refine lg_nil ?_
            have hg3 : g.length = 3 := by have := hb31; omega
            have h5 : ¬ ((0 < i ∧ blt (P.getD (i - 1) ([], [])).1 g = false) ∨ t = [] ∨ incB t = false) := by
             have hinc : incB t = true := by have := hb52; simpa using this
             rintro (⟨h1, h2⟩ | h | h)
             ·first | omega | (rw [hyd] at h2; rw [hlt] at h2; cases h2)
             ·exact hte h
             ·rw [hinc] at h; cases h
            have hsub : ¬ t.any (outB l) = true := fun h => by
             obtain ⟨y, hy, hb⟩ := List.any_eq_true.1 h
             rw [k2 y (by rw [List.take_length]; exact hy)] at hb; cases hb
            have hf : pfT l P i = 0 := by unfold pfT; rw [hxd, if_neg (by show ¬ g.length ≠ 3; omega), if_neg h5, if_neg hsub]
            refine h23 _ ⟨i + 1, ?_, ?_, [some 0, some 1], ?_⟩
            ·dsimp only
             exact ⟨by omega, lt_succF i2 hf⟩
            ·dsimp only
             omega
            ·dsimp only
             refine ⟨by rfl, ?_, ?_⟩
             ·refine fin_ ?_
              exact cl_
             ·refine fin_ ?_
              exact cl_
      ·refine vc_exit ?_
       simp only [k_rules, Nat.reduceEqDiff, reduceIte, eq_self]
       refine h21 _ ?_; clear h21; try clear N21
       refine vc_seq_k fun N63 h63 => ?_
       refine u_reg ?_
       try refine lg_mk ?_
       refine u_bd ?_
       refine u_st ?_
       refine lg_nil ?_
       refine h63 _ ?_; clear h63; try clear N63
       refine vc_ret ?_
       try simp only [k_rules]
       have hr : valF l P = (0, 0) := by unfold valF; rw [if_neg (by rw [htx]; simp), firstF_none (fun j hj => i2 j (by omega))]
       rw [hr]
       refine fin2_ ?_
       exact cl_
 ·cases hg

def E_ixFault : Env Try.prog := E_cFor.add 17 (Spec.pure valTG) ixFault_meets (by kernel_rfl)
end Go.Proofs.Ytjdhadbnmghdgaa
