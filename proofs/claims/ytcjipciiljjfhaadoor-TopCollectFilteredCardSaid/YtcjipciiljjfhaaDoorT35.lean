/- Walks, printed by wip/gen/walk.py. -/
import Derived.Test.YtcjipciiljjfhaaDoorT34
import Derived.Test.YtcjipciiljjfhaaDoorV5
set_option linter.all false
set_option maxRecDepth 100000
set_option maxHeartbeats 4000000
namespace Go.Proofs.YtcjipciiljjfhaaDoor
open Go Go.Vc Go.RowKit
theorem rf_cases6 (l : List Rf) {i : Nat} {r : Rf} (h : l[i]? = some r) : (nameB r.nm = false ∧ rfC l i = 12) ∨ (nameB r.nm = true ∧ (r.tg < 0 ∨ 2305843009213693951 ≤ r.tg) ∧ rfC l i = 3) ∨
    (nameB r.nm = true ∧ (0 ≤ r.tg ∧ r.tg < 2305843009213693951) ∧ 0 < i ∧ (∃ y, l[i - 1]? = some y ∧ (Op.bytesLess r.nm y.nm || decide (r.nm = y.nm)) = true) ∧ rfC l i = 5) ∨
    (nameB r.nm = true ∧ (0 ≤ r.tg ∧ r.tg < 2305843009213693951) ∧ 0 < i ∧ (∃ y, l[i - 1]? = some y ∧ (Op.bytesLess r.nm y.nm || decide (r.nm = y.nm)) = false) ∧ ((l.take i).any fun q => cnfB q.nm r.nm) = true ∧ rfC l i = 19) ∨
    (nameB r.nm = true ∧ (0 ≤ r.tg ∧ r.tg < 2305843009213693951) ∧ 0 < i ∧ (∃ y, l[i - 1]? = some y ∧ (Op.bytesLess r.nm y.nm || decide (r.nm = y.nm)) = false) ∧ ((l.take i).any fun q => cnfB q.nm r.nm) = false ∧ rfC l i = 0) ∨
    (nameB r.nm = true ∧ (0 ≤ r.tg ∧ r.tg < 2305843009213693951) ∧ i = 0 ∧ ((l.take i).any fun q => cnfB q.nm r.nm) = false ∧ rfC l i = 0) := by
  have hi := (List.getElem?_eq_some_iff.1 h).1
  have prev : 0 < i → ∃ y, l[i - 1]? = some y ∧ l.getD (i - 1) default = y := fun h0 => by
    obtain ⟨y, hy⟩ : ∃ y, l[i - 1]? = some y := ⟨_, List.getElem?_eq_getElem (by omega)⟩
    exact ⟨y, hy, getD_at hy⟩
  rcases rf_cases l h with h1 | ⟨hn, h1 | ⟨ht, ⟨h0, hle, hcd⟩ | ⟨hnl, hac⟩⟩⟩
  · exact .inl h1
  · exact .inr (.inl ⟨hn, h1⟩)
  · obtain ⟨y, hy, hd⟩ := prev h0
    rw [hd] at hle
    exact .inr (.inr (.inl ⟨hn, ht, h0, ⟨y, hy, hle⟩, hcd⟩))
  · rcases Nat.eq_zero_or_pos i with h0 | h0
    · rcases hac with ⟨ha, hcd⟩ | ⟨ha, hcd⟩
      · subst h0; simp at ha
      · exact .inr (.inr (.inr (.inr (.inr ⟨hn, ht, h0, ha, hcd⟩))))
    · obtain ⟨y, hy, hd⟩ := prev h0
      have hl := hnl h0
      rw [hd] at hl
      rcases hac with ⟨ha, hcd⟩ | ⟨ha, hcd⟩
      · exact .inr (.inr (.inr (.inl ⟨hn, ht, h0, ⟨y, hy, hl⟩, ha, hcd⟩)))
      · exact .inr (.inr (.inr (.inr (.inl ⟨hn, ht, h0, ⟨y, hy, hl⟩, ha, hcd⟩))))
theorem rfF_ok {l : List Rf} (hl : ¬ 30 < l.length) (h : ∀ j, j < l.length → rfC l j = 0) : rfF l = (0, 0) := by
  unfold rfF; rw [if_neg hl, firstF_none h]

theorem refsV_meets : Meets Tryd.prog 12 (Spec.pure valRG) := by
 refine meets_fun (E_isD.at_ 59) Tryd.func12 rfl rfl rfl ?_
 intro args p r hg hp
 unfold valRG at hg
 split at hg
 ·rename_i xs
  simp only [Option.some.injEq, Prod.mk.injEq] at hg
  obtain ⟨rfl, rfl⟩ := hg
  obtain ⟨he, hl, hsm⟩ := hp
  generalize dR xs = l at *
  subst he
  have hT : (E_isD).X = T := rfl
  have hx0 := And.intro @rect_eR (And.intro @dR_rows (And.intro @dec_t (And.intro @dec_f @Tryd.results12)))
  have hx := hx0
  refine ⟨by rfl, ?_⟩
  intro F W0 hnp hmk
  refine vc_seq_k fun N1 h1 => ?_
  refine u_reg ?_
  try refine lg_mk ?_
  refine u_bx ?_
  refine u_al ?_
  refine lg_nil ?_
  refine h1 _ ?_; clear h1; try clear N1
  refine vc_seq_k fun N2 h2 => ?_
  refine vc_seq_k fun N3 h3 => ?_
  refine u_reg ?_
  try refine lg_mk ?_
  refine u_pt ?_
  refine u_ld ?_
  refine u_ln ?_
  refine u_bn ?_
  refine lg_nil ?_
  refine h3 _ ?_; clear h3; try clear N3
  refine u_cond (fun hb4 => ?_) (fun hb4 => ?_)
  ·refine vc_seq_k fun N5 h5 => ?_
   refine u_reg ?_
   try refine lg_mk ?_
   refine u_bd ?_
   refine u_st ?_
   refine lg_nil ?_
   refine h5 _ ?_; clear h5; try clear N5
   refine vc_ret ?_
   try simp only [k_rules]
   have hr : rfF l = (2, -1) := by unfold rfF; rw [if_pos (by have := hb4; omega)]
   rw [hr]
   refine fin2_ ?_
   exact cl_
  ·refine vc_skip ?_
   try simp only [k_rules]
   refine h2 _ ?_; clear h2; try clear N2
   refine vc_seq_k fun N6 h6 => ?_
   refine vc_seq_k fun N7 h7 => ?_
   refine u_reg ?_
   try refine lg_mk ?_
   refine u_pt ?_
   refine u_ld ?_
   refine u_ln ?_
   refine u_mv ?_
   refine lg_nil ?_
   refine h7 _ ?_; clear h7; try clear N7
   refine vc_block ?_
   refine vc_loop_mk (σ := Nat) (fun s => (fun i => i ≤ l.length ∧ ∀ j, j < i → rfC l j = 0) s)
    (fun s => (fun i => [(1, .ptr 0 0 0), (2, .ptr 1 0 0), (12, .d (.sl (rows eR l))), (13, .d (.int .i64 (l.length : Nat))), (14, .d (.int .i64 (i : Nat)))]) s)
    (fun s => (fun i => [some (.one 27 [.d (.sl (rows eR l))]), some (.one 33 [.d (.int .i64 0), .d (.int .i64 0)])]) s) (fun s => (fun i => l.length - i) s) hnp 0 ?_ [some 0, some 1] ?_ ?_
   ·dsimp only
    exact ⟨by omega, fun j hj => by omega⟩
   ·dsimp only
    refine ⟨by rfl, ?_, ?_⟩
    ·refine fin_ ?_
     exact cl_
    ·refine fin_ ?_
     exact cl_
   ·rintro i hinv N8 h8
    dsimp only at hinv ⊢
    obtain ⟨i1, i2⟩ := hinv
    refine vc_seq_k fun N9 h9 => ?_
    refine u_reg ?_
    try refine lg_mk ?_
    refine u_bn ?_
    refine lg_nil ?_
    refine h9 _ ?_; clear h9; try clear N9
    refine vc_seq_k fun N10 h10 => ?_
    refine u_cond (fun hb11 => ?_) (fun hb11 => ?_)
    ·obtain ⟨r, hre⟩ := getE (l := l) (i := i) (by omega)
     have hrs := hsm r (mem_at hre)
     have hns := names_small i2
     obtain ⟨nm, tg⟩ := r
     dsimp only at hrs
     refine vc_skip ?_
     try simp only [k_rules]
     refine h10 _ ?_; clear h10; try clear N10
     refine vc_seq_k fun N12 h12 => ?_
     refine vc_block ?_
     refine vc_seq_k fun N13 h13 => ?_
     have hx := And.intro @hre (And.intro @eR.eq_1 hx0)
     refine u_reg ?_
     try refine lg_mk ?_
     refine u_mv ?_
     refine u_pt ?_
     refine u_ld ?_
     refine u_al ?_
     refine u_mv ?_
     refine u_st ?_
     refine lg_nil ?_
     have hx := hx0
     refine h13 _ ?_; clear h13; try clear N13
     refine vc_seq_k fun N14 h14 => ?_
     rcases rf_cases6 l hre with ⟨hn, hcd⟩ | ⟨hn, ht, hcd⟩ | ⟨hn, ht, h0, hy, hcd⟩ | ⟨hn, ht, h0, hy, ha, hcd⟩ | ⟨hn, ht, h0, hy, ha, hcd⟩ | ⟨hn, ht, h0, ha, hcd⟩
     ·dsimp only at hn
      refine u_reg ?_
      try refine lg_mk ?_
      refine u_mv ?_
      refine lg_nil ?_
      refine h14 _ ?_; clear h14; try clear N14
      refine vc_seq_k fun N15 h15 => ?_
      refine vc_block ?_
      refine vc_seq_k fun N16 h16 => ?_
      have hx := And.intro @hn hx0
      refine u_reg ?_
      try refine lg_mk ?_
      refine u_pt ?_
      refine u_ld ?_
      have hc := call_rule (E := (E_isD.at_ 59)) (f := 20) (sp := Spec.pure nameG) rfl
      have hs := @nameG.eq_1
      refine u_cp (hq := by (first | (omega) | exact sd_)) ?_
      refine u_un ?_
      refine u_mv ?_
      refine lg_nil ?_
      have hx := hx0
      refine h16 _ ?_; clear h16; try clear N16
      refine u_cond (fun hb17 => ?_) (fun hb17 => ?_)
      ·refine u_reg ?_
       try refine lg_mk ?_
       refine u_mv ?_
       refine lg_nil ?_
       refine h15 _ ?_; clear h15; try clear N15
       refine vc_seq_k fun N18 h18 => ?_
       refine u_reg ?_
       try refine lg_mk ?_
       refine u_mv ?_
       refine u_bn ?_
       refine lg_nil ?_
       refine h18 _ ?_; clear h18; try clear N18
       refine u_cond (fun hb19 => ?_) (fun hb19 => ?_)
       ·refine vc_seq_k fun N20 h20 => ?_
        refine u_reg ?_
        try refine lg_mk ?_
        refine u_mv ?_
        refine u_mv ?_
        refine u_bd ?_
        refine u_st ?_
        refine lg_nil ?_
        refine h20 _ ?_; clear h20; try clear N20
        refine vc_ret ?_
        try simp only [k_rules]
        have hr := rfF_at (l := l) (i := i) (by omega) (by omega) i2 hcd (by decide)
        rw [hr]
        refine fin2_ ?_
        exact cl_
       ·first | omega | exact absurd trivial hb19 | contradiction | (simp_all; done)
      ·first | omega | exact absurd trivial hb17 | contradiction | (simp_all; done)
     ·dsimp only at hn ht
      have ht2 : (decide ((0 : Int) ≤ tg) && decide (tg < 2305843009213693951)) = false := by rw [Bool.and_eq_false_iff, decide_eq_false_iff_not, decide_eq_false_iff_not]; omega
      have ht3 := ht2
      refine u_reg ?_
      try refine lg_mk ?_
      refine u_mv ?_
      refine lg_nil ?_
      refine h14 _ ?_; clear h14; try clear N14
      refine vc_seq_k fun N21 h21 => ?_
      refine vc_block ?_
      refine vc_seq_k fun N22 h22 => ?_
      have hx := And.intro @hn hx0
      refine u_reg ?_
      try refine lg_mk ?_
      refine u_pt ?_
      refine u_ld ?_
      have hc := call_rule (E := (E_isD.at_ 59)) (f := 20) (sp := Spec.pure nameG) rfl
      have hs := @nameG.eq_1
      refine u_cp (hq := by (first | (omega) | exact sd_)) ?_
      refine u_un ?_
      refine u_mv ?_
      refine lg_nil ?_
      have hx := hx0
      refine h22 _ ?_; clear h22; try clear N22
      refine u_cond (fun hb23 => ?_) (fun hb23 => ?_)
      ·first | omega | exact absurd trivial hb23 | contradiction | (simp_all; done)
      ·refine vc_seq_k fun N24 h24 => ?_
       have hx := And.intro @ht2 (And.intro @ht3 hx0)
       refine u_reg ?_
       try refine lg_mk ?_
       refine u_pt ?_
       refine u_ld ?_
       have hc := call_rule (E := (E_isD.at_ 59)) (f := 21) (sp := Spec.pure isDG) rfl
       have hs := @isDG.eq_1
       refine u_cp ?_
       refine u_un ?_
       refine u_mv ?_
       refine lg_nil ?_
       have hx := hx0
       refine h24 _ ?_; clear h24; try clear N24
       refine u_cond (fun hb25 => ?_) (fun hb25 => ?_)
       ·refine u_reg ?_
        try refine lg_mk ?_
        refine u_mv ?_
        refine lg_nil ?_
        refine h21 _ ?_; clear h21; try clear N21
        refine vc_seq_k fun N26 h26 => ?_
        refine u_reg ?_
        try refine lg_mk ?_
        refine u_mv ?_
        refine u_bn ?_
        refine lg_nil ?_
        refine h26 _ ?_; clear h26; try clear N26
        refine u_cond (fun hb27 => ?_) (fun hb27 => ?_)
        ·refine vc_seq_k fun N28 h28 => ?_
         refine u_reg ?_
         try refine lg_mk ?_
         refine u_mv ?_
         refine u_mv ?_
         refine u_bd ?_
         refine u_st ?_
         refine lg_nil ?_
         refine h28 _ ?_; clear h28; try clear N28
         refine vc_ret ?_
         try simp only [k_rules]
         have hr := rfF_at (l := l) (i := i) (by omega) (by omega) i2 hcd (by decide)
         rw [hr]
         refine fin2_ ?_
         exact cl_
        ·first | omega | exact absurd trivial hb27 | contradiction | (simp_all; done)
       ·first | omega | exact absurd trivial hb25 | contradiction | (simp_all; done)
     ·dsimp only at hn ht
      obtain ⟨ht0, ht1⟩ := ht
      have ht2 : decide ((0 : Int) ≤ tg) = true := decide_eq_true ht0
      have ht3 : decide (tg < 2305843009213693951) = true := decide_eq_true ht1
      have hnl : nm.length ≤ 60 := name_len hn
      obtain ⟨y, hye, hle⟩ := hy
      obtain ⟨ny, ty⟩ := y
      have hgt : decide ((0 : Int) < (i : Int)) = true := decide_eq_true (by omega)
      have hpm : ((i : Int) - 1).toNat = i - 1 := by omega
      dsimp only at hle
      refine u_reg ?_
      try refine lg_mk ?_
      refine u_mv ?_
      refine lg_nil ?_
      refine h14 _ ?_; clear h14; try clear N14
      refine vc_seq_k fun N29 h29 => ?_
      refine vc_block ?_
      refine vc_seq_k fun N30 h30 => ?_
      have hx := And.intro @hn hx0
      refine u_reg ?_
      try refine lg_mk ?_
      refine u_pt ?_
      refine u_ld ?_
      have hc := call_rule (E := (E_isD.at_ 59)) (f := 20) (sp := Spec.pure nameG) rfl
      have hs := @nameG.eq_1
      refine u_cp (hq := by (first | (omega) | exact sd_)) ?_
      refine u_un ?_
      refine u_mv ?_
      refine lg_nil ?_
      have hx := hx0
      refine h30 _ ?_; clear h30; try clear N30
      refine u_cond (fun hb31 => ?_) (fun hb31 => ?_)
      ·first | omega | exact absurd trivial hb31 | contradiction | (simp_all; done)
      ·refine vc_seq_k fun N32 h32 => ?_
       have hx := And.intro @ht2 (And.intro @ht3 hx0)
       refine u_reg ?_
       try refine lg_mk ?_
       refine u_pt ?_
       refine u_ld ?_
       have hc := call_rule (E := (E_isD.at_ 59)) (f := 21) (sp := Spec.pure isDG) rfl
       have hs := @isDG.eq_1
       refine u_cp ?_
       refine u_un ?_
       refine u_mv ?_
       refine lg_nil ?_
       have hx := hx0
       refine h32 _ ?_; clear h32; try clear N32
       refine u_cond (fun hb33 => ?_) (fun hb33 => ?_)
       ·first | omega | exact absurd trivial hb33 | contradiction | (simp_all; done)
       ·refine vc_seq_k fun N34 h34 => ?_
        have hx := And.intro @hgt (And.intro @hle (And.intro @hpm (And.intro @hye (And.intro @eR.eq_1 hx0))))
        refine u_reg ?_
        try refine lg_mk ?_
        refine u_mv ?_
        refine u_bn ?_
        refine u_mv ?_
        refine g_pt ?_
        refine g_ld ?_
        refine g_pt ?_
        refine g_ld ?_
        refine g_mv ?_
        refine g_bn ?_
        refine g_pt ?_
        refine g_pt ?_
        refine g_ld ?_
        refine g_bn ?_
        refine u_pk ?_
        refine u_mv ?_
        refine lg_nil ?_
        have hx := hx0
        refine h34 _ ?_; clear h34; try clear N34
        refine u_cond (fun hb35 => ?_) (fun hb35 => ?_)
        ·refine u_reg ?_
         try refine lg_mk ?_
         refine u_mv ?_
         refine lg_nil ?_
         refine h29 _ ?_; clear h29; try clear N29
         refine vc_seq_k fun N36 h36 => ?_
         refine u_reg ?_
         try refine lg_mk ?_
         refine u_mv ?_
         refine u_bn ?_
         refine lg_nil ?_
         refine h36 _ ?_; clear h36; try clear N36
         refine u_cond (fun hb37 => ?_) (fun hb37 => ?_)
         ·refine vc_seq_k fun N38 h38 => ?_
          refine u_reg ?_
          try refine lg_mk ?_
          refine u_mv ?_
          refine u_mv ?_
          refine u_bd ?_
          refine u_st ?_
          refine lg_nil ?_
          refine h38 _ ?_; clear h38; try clear N38
          refine vc_ret ?_
          try simp only [k_rules]
          have hr := rfF_at (l := l) (i := i) (by omega) (by omega) i2 hcd (by decide)
          rw [hr]
          refine fin2_ ?_
          exact cl_
         ·first | omega | exact absurd trivial hb37 | contradiction | (simp_all; done)
        ·first | omega | exact absurd trivial hb35 | contradiction | (simp_all; done)
     ·dsimp only at hn ht ha
      obtain ⟨ht0, ht1⟩ := ht
      have ht2 : decide ((0 : Int) ≤ tg) = true := decide_eq_true ht0
      have ht3 : decide (tg < 2305843009213693951) = true := decide_eq_true ht1
      have hnl : nm.length ≤ 60 := name_len hn
      obtain ⟨y, hye, hle⟩ := hy
      obtain ⟨ny, ty⟩ := y
      have hgt : decide ((0 : Int) < (i : Int)) = true := decide_eq_true (by omega)
      have hpm : ((i : Int) - 1).toNat = i - 1 := by omega
      dsimp only at hle
      refine u_reg ?_
      try refine lg_mk ?_
      refine u_mv ?_
      refine lg_nil ?_
      refine h14 _ ?_; clear h14; try clear N14
      refine vc_seq_k fun N39 h39 => ?_
      refine vc_block ?_
      refine vc_seq_k fun N40 h40 => ?_
      have hx := And.intro @hn hx0
      refine u_reg ?_
      try refine lg_mk ?_
      refine u_pt ?_
      refine u_ld ?_
      have hc := call_rule (E := (E_isD.at_ 59)) (f := 20) (sp := Spec.pure nameG) rfl
      have hs := @nameG.eq_1
      refine u_cp (hq := by (first | (omega) | exact sd_)) ?_
      refine u_un ?_
      refine u_mv ?_
      refine lg_nil ?_
      have hx := hx0
      refine h40 _ ?_; clear h40; try clear N40
      refine u_cond (fun hb41 => ?_) (fun hb41 => ?_)
      ·first | omega | exact absurd trivial hb41 | contradiction | (simp_all; done)
      ·refine vc_seq_k fun N42 h42 => ?_
       have hx := And.intro @ht2 (And.intro @ht3 hx0)
       refine u_reg ?_
       try refine lg_mk ?_
       refine u_pt ?_
       refine u_ld ?_
       have hc := call_rule (E := (E_isD.at_ 59)) (f := 21) (sp := Spec.pure isDG) rfl
       have hs := @isDG.eq_1
       refine u_cp ?_
       refine u_un ?_
       refine u_mv ?_
       refine lg_nil ?_
       have hx := hx0
       refine h42 _ ?_; clear h42; try clear N42
       refine u_cond (fun hb43 => ?_) (fun hb43 => ?_)
       ·first | omega | exact absurd trivial hb43 | contradiction | (simp_all; done)
       ·refine vc_seq_k fun N44 h44 => ?_
        have hx := And.intro @hgt (And.intro @hle (And.intro @hpm (And.intro @hye (And.intro @eR.eq_1 hx0))))
        refine u_reg ?_
        try refine lg_mk ?_
        refine u_mv ?_
        refine u_bn ?_
        refine u_mv ?_
        refine g_pt ?_
        refine g_ld ?_
        refine g_pt ?_
        refine g_ld ?_
        refine g_mv ?_
        refine g_bn ?_
        refine g_pt ?_
        refine g_pt ?_
        refine g_ld ?_
        refine g_bn ?_
        refine u_pk ?_
        refine u_mv ?_
        refine lg_nil ?_
        have hx := hx0
        refine h44 _ ?_; clear h44; try clear N44
        refine u_cond (fun hb45 => ?_) (fun hb45 => ?_)
        ·first | omega | exact absurd trivial hb45 | contradiction | (simp_all; done)
        ·refine vc_seq_k fun N46 h46 => ?_
         have hx := And.intro @ha hx0
         refine u_reg ?_
         try refine lg_mk ?_
         refine u_pt ?_
         refine u_ld ?_
         refine u_mv ?_
         refine u_sl ?_
         refine u_pt ?_
         refine u_ld ?_
         have hc := call_rule (E := (E_isD.at_ 59)) (f := 22) (sp := Spec.pure clashG) rfl
         have hs := @clashG.eq_1
         refine u_cp (hq := by (first | (exact ⟨by simp; omega, hns, by omega⟩) | exact sd_)) ?_
         refine u_mv ?_
         refine lg_nil ?_
         have hx := hx0
         refine h46 _ ?_; clear h46; try clear N46
         refine u_cond (fun hb47 => ?_) (fun hb47 => ?_)
         ·refine u_reg ?_
          try refine lg_mk ?_
          refine u_mv ?_
          refine lg_nil ?_
          refine h39 _ ?_; clear h39; try clear N39
          refine vc_seq_k fun N48 h48 => ?_
          refine u_reg ?_
          try refine lg_mk ?_
          refine u_mv ?_
          refine u_bn ?_
          refine lg_nil ?_
          refine h48 _ ?_; clear h48; try clear N48
          refine u_cond (fun hb49 => ?_) (fun hb49 => ?_)
          ·refine vc_seq_k fun N50 h50 => ?_
           refine u_reg ?_
           try refine lg_mk ?_
           refine u_mv ?_
           refine u_mv ?_
           refine u_bd ?_
           refine u_st ?_
           refine lg_nil ?_
           refine h50 _ ?_; clear h50; try clear N50
           refine vc_ret ?_
           try simp only [k_rules]
           have hr := rfF_at (l := l) (i := i) (by omega) (by omega) i2 hcd (by decide)
           rw [hr]
           refine fin2_ ?_
           exact cl_
          ·first | omega | exact absurd trivial hb49 | contradiction | (simp_all; done)
         ·first | exact hb47 ha | exact absurd ha hb47 | (simp [ha] at hb47; done)
     ·dsimp only at hn ht ha
      obtain ⟨ht0, ht1⟩ := ht
      have ht2 : decide ((0 : Int) ≤ tg) = true := decide_eq_true ht0
      have ht3 : decide (tg < 2305843009213693951) = true := decide_eq_true ht1
      have hnl : nm.length ≤ 60 := name_len hn
      obtain ⟨y, hye, hle⟩ := hy
      obtain ⟨ny, ty⟩ := y
      have hgt : decide ((0 : Int) < (i : Int)) = true := decide_eq_true (by omega)
      have hpm : ((i : Int) - 1).toNat = i - 1 := by omega
      dsimp only at hle
      refine u_reg ?_
      try refine lg_mk ?_
      refine u_mv ?_
      refine lg_nil ?_
      refine h14 _ ?_; clear h14; try clear N14
      refine vc_seq_k fun N51 h51 => ?_
      refine vc_block ?_
      refine vc_seq_k fun N52 h52 => ?_
      have hx := And.intro @hn hx0
      refine u_reg ?_
      try refine lg_mk ?_
      refine u_pt ?_
      refine u_ld ?_
      have hc := call_rule (E := (E_isD.at_ 59)) (f := 20) (sp := Spec.pure nameG) rfl
      have hs := @nameG.eq_1
      refine u_cp (hq := by (first | (omega) | exact sd_)) ?_
      refine u_un ?_
      refine u_mv ?_
      refine lg_nil ?_
      have hx := hx0
      refine h52 _ ?_; clear h52; try clear N52
      refine u_cond (fun hb53 => ?_) (fun hb53 => ?_)
      ·first | omega | exact absurd trivial hb53 | contradiction | (simp_all; done)
      ·refine vc_seq_k fun N54 h54 => ?_
       have hx := And.intro @ht2 (And.intro @ht3 hx0)
       refine u_reg ?_
       try refine lg_mk ?_
       refine u_pt ?_
       refine u_ld ?_
       have hc := call_rule (E := (E_isD.at_ 59)) (f := 21) (sp := Spec.pure isDG) rfl
       have hs := @isDG.eq_1
       refine u_cp ?_
       refine u_un ?_
       refine u_mv ?_
       refine lg_nil ?_
       have hx := hx0
       refine h54 _ ?_; clear h54; try clear N54
       refine u_cond (fun hb55 => ?_) (fun hb55 => ?_)
       ·first | omega | exact absurd trivial hb55 | contradiction | (simp_all; done)
       ·refine vc_seq_k fun N56 h56 => ?_
        have hx := And.intro @hgt (And.intro @hle (And.intro @hpm (And.intro @hye (And.intro @eR.eq_1 hx0))))
        refine u_reg ?_
        try refine lg_mk ?_
        refine u_mv ?_
        refine u_bn ?_
        refine u_mv ?_
        refine g_pt ?_
        refine g_ld ?_
        refine g_pt ?_
        refine g_ld ?_
        refine g_mv ?_
        refine g_bn ?_
        refine g_pt ?_
        refine g_pt ?_
        refine g_ld ?_
        refine g_bn ?_
        refine u_pk ?_
        refine u_mv ?_
        refine lg_nil ?_
        have hx := hx0
        refine h56 _ ?_; clear h56; try clear N56
        refine u_cond (fun hb57 => ?_) (fun hb57 => ?_)
        ·first | omega | exact absurd trivial hb57 | contradiction | (simp_all; done)
        ·refine vc_seq_k fun N58 h58 => ?_
         have hx := And.intro @ha hx0
         refine u_reg ?_
         try refine lg_mk ?_
         refine u_pt ?_
         refine u_ld ?_
         refine u_mv ?_
         refine u_sl ?_
         refine u_pt ?_
         refine u_ld ?_
         have hc := call_rule (E := (E_isD.at_ 59)) (f := 22) (sp := Spec.pure clashG) rfl
         have hs := @clashG.eq_1
         refine u_cp (hq := by (first | (exact ⟨by simp; omega, hns, by omega⟩) | exact sd_)) ?_
         refine u_mv ?_
         refine lg_nil ?_
         have hx := hx0
         refine h58 _ ?_; clear h58; try clear N58
         refine u_cond (fun hb59 => ?_) (fun hb59 => ?_)
         ·first | (rw [ha] at hb59; cases hb59; done) | exact absurd hb59 (by rw [ha]; simp) | (simp [ha] at hb59; done)
         ·refine vc_skip ?_
          try simp only [k_rules]
          refine h51 _ ?_; clear h51; try clear N51
          refine vc_seq_k fun N60 h60 => ?_
          refine u_reg ?_
          try refine lg_mk ?_
          refine u_mv ?_
          refine u_bn ?_
          refine lg_nil ?_
          refine h60 _ ?_; clear h60; try clear N60
          refine u_cond (fun hb61 => ?_) (fun hb61 => ?_)
          ·first | omega | exact absurd trivial hb61 | contradiction | (simp_all; done)
          ·refine vc_skip ?_
           try simp only [k_rules]
           refine h12 _ ?_; clear h12; try clear N12
           refine u_reg ?_
           try refine lg_mk ?_
           refine u_bn ?_
           refine u_mv ?_
           refine lg_nil ?_
           refine h8 _ ⟨i + 1, ?_, ?_, [some 0, some 1], ?_⟩
           ·dsimp only
            exact ⟨by omega, lt_succO i2 hcd⟩
           ·dsimp only
            omega
           ·dsimp only
            refine ⟨by rfl, ?_, ?_⟩
            ·refine fin_ ?_
             exact cl_
            ·refine fin_ ?_
             exact cl_
     ·dsimp only at hn ht ha
      obtain ⟨ht0, ht1⟩ := ht
      have ht2 : decide ((0 : Int) ≤ tg) = true := decide_eq_true ht0
      have ht3 : decide (tg < 2305843009213693951) = true := decide_eq_true ht1
      have hnl : nm.length ≤ 60 := name_len hn
      have hgt : decide ((0 : Int) < (i : Int)) = false := decide_eq_false (by omega)
      have hle := hgt
      have hpm := hgt
      have hye := hgt
      refine u_reg ?_
      try refine lg_mk ?_
      refine u_mv ?_
      refine lg_nil ?_
      refine h14 _ ?_; clear h14; try clear N14
      refine vc_seq_k fun N62 h62 => ?_
      refine vc_block ?_
      refine vc_seq_k fun N63 h63 => ?_
      have hx := And.intro @hn hx0
      refine u_reg ?_
      try refine lg_mk ?_
      refine u_pt ?_
      refine u_ld ?_
      have hc := call_rule (E := (E_isD.at_ 59)) (f := 20) (sp := Spec.pure nameG) rfl
      have hs := @nameG.eq_1
      refine u_cp (hq := by (first | (omega) | exact sd_)) ?_
      refine u_un ?_
      refine u_mv ?_
      refine lg_nil ?_
      have hx := hx0
      refine h63 _ ?_; clear h63; try clear N63
      refine u_cond (fun hb64 => ?_) (fun hb64 => ?_)
      ·first | omega | exact absurd trivial hb64 | contradiction | (simp_all; done)
      ·refine vc_seq_k fun N65 h65 => ?_
       have hx := And.intro @ht2 (And.intro @ht3 hx0)
       refine u_reg ?_
       try refine lg_mk ?_
       refine u_pt ?_
       refine u_ld ?_
       have hc := call_rule (E := (E_isD.at_ 59)) (f := 21) (sp := Spec.pure isDG) rfl
       have hs := @isDG.eq_1
       refine u_cp ?_
       refine u_un ?_
       refine u_mv ?_
       refine lg_nil ?_
       have hx := hx0
       refine h65 _ ?_; clear h65; try clear N65
       refine u_cond (fun hb66 => ?_) (fun hb66 => ?_)
       ·first | omega | exact absurd trivial hb66 | contradiction | (simp_all; done)
       ·refine vc_seq_k fun N67 h67 => ?_
        have hx := And.intro @hgt (And.intro @hle (And.intro @hpm (And.intro @hye (And.intro @eR.eq_1 hx0))))
        refine u_reg ?_
        try refine lg_mk ?_
        refine u_mv ?_
        refine u_bn ?_
        refine u_mv ?_
        refine g_pt ?_
        refine g_ld ?_
        refine g_pt ?_
        refine g_ld ?_
        refine g_mv ?_
        refine g_bn ?_
        refine g_pt ?_
        refine g_pt ?_
        refine g_ld ?_
        refine g_bn ?_
        refine u_pk ?_
        refine u_mv ?_
        refine lg_nil ?_
        have hx := hx0
        refine h67 _ ?_; clear h67; try clear N67
        refine u_cond (fun hb68 => ?_) (fun hb68 => ?_)
        ·first | omega | exact absurd trivial hb68 | contradiction | (simp_all; done)
        ·refine vc_seq_k fun N69 h69 => ?_
         have hx := And.intro @ha hx0
         refine u_reg ?_
         try refine lg_mk ?_
         refine u_pt ?_
         refine u_ld ?_
         refine u_mv ?_
         refine u_sl ?_
         refine u_pt ?_
         refine u_ld ?_
         have hc := call_rule (E := (E_isD.at_ 59)) (f := 22) (sp := Spec.pure clashG) rfl
         have hs := @clashG.eq_1
         refine u_cp (hq := by (first | (exact ⟨by simp; omega, hns, by omega⟩) | exact sd_)) ?_
         refine u_mv ?_
         refine lg_nil ?_
         have hx := hx0
         refine h69 _ ?_; clear h69; try clear N69
         refine u_cond (fun hb70 => ?_) (fun hb70 => ?_)
         ·first | omega | exact absurd trivial hb70 | contradiction | (simp_all; done)
         ·refine vc_skip ?_
          try simp only [k_rules]
          refine h62 _ ?_; clear h62; try clear N62
          refine vc_seq_k fun N71 h71 => ?_
          refine u_reg ?_
          try refine lg_mk ?_
          refine u_mv ?_
          refine u_bn ?_
          refine lg_nil ?_
          refine h71 _ ?_; clear h71; try clear N71
          refine u_cond (fun hb72 => ?_) (fun hb72 => ?_)
          ·first | omega | exact absurd trivial hb72 | contradiction | (simp_all; done)
          ·refine vc_skip ?_
           try simp only [k_rules]
           refine h12 _ ?_; clear h12; try clear N12
           refine u_reg ?_
           try refine lg_mk ?_
           refine u_bn ?_
           refine u_mv ?_
           refine lg_nil ?_
           refine h8 _ ⟨i + 1, ?_, ?_, [some 0, some 1], ?_⟩
           ·dsimp only
            exact ⟨by omega, lt_succO i2 hcd⟩
           ·dsimp only
            omega
           ·dsimp only
            refine ⟨by rfl, ?_, ?_⟩
            ·refine fin_ ?_
             exact cl_
            ·refine fin_ ?_
             exact cl_
    ·refine vc_exit ?_
     simp only [k_rules, Nat.reduceEqDiff, reduceIte, eq_self]
     refine h6 _ ?_; clear h6; try clear N6
     refine vc_seq_k fun N73 h73 => ?_
     refine u_reg ?_
     try refine lg_mk ?_
     refine u_bd ?_
     refine u_st ?_
     refine lg_nil ?_
     refine h73 _ ?_; clear h73; try clear N73
     refine vc_ret ?_
     try simp only [k_rules]
     have hr := rfF_ok (l := l) (by omega) (fun j hj => i2 j (by omega))
     rw [hr]
     refine fin2_ ?_
     exact cl_
 ·cases hg

def E_refsV : Env Tryd.prog := E_isD.add 12 (Spec.pure valRG) refsV_meets (by kernel_rfl)
end Go.Proofs.YtcjipciiljjfhaaDoor
