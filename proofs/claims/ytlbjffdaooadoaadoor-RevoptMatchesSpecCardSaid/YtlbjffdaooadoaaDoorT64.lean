/- Walks, printed by wip/gen/walk.py. -/
import Derived.Test.YtlbjffdaooadoaaDoorT63
import Derived.Test.YtlbjffdaooadoaaDoorV5
set_option linter.all false
set_option maxRecDepth 100000
set_option maxHeartbeats 4000000
namespace Go.Proofs.YtlbjffdaooadoaaDoor
open Go Go.Vc Go.RowKit
theorem s1_all : ∀ n, Meets Tryd.prog 43 (Spec.pure (s1G n))
  | 0 => meets_voidP fun a p r h hp => by
    unfold s1G at h
    split at h
    · simp only [Option.some.injEq, Prod.mk.injEq] at h
      obtain ⟨rfl, _⟩ := h
      have := szT_pos (okT_ne hp.1.2.1)
      have := hp.2.1
      omega
    · cases h
  | n + 1 => sone_step n (s1_all n)
def s2G : List AV → Option (Prop × AV)
  | [.d (.int .i64 k), .d (.sl xs), .d (.sl ys)] => some (lsP xs ∧ lsP ys ∧ 14 ≤ k ∧ k ≤ 16 ∧ szT (treQ (dN xs)) + szT (treQ (dN ys)) ≤ 39, .d (.sl (rows eN (lsT 0 (twoT k (treQ (dN xs)) (treQ (dN ys)))))))
  | _ => none
theorem sm_ls {t : Tr} (h : okT t) (hs : szT t ≤ 40) : smQ (lsT 0 t) := sm_of (ls_val h hs)

def E_s1A : Env Tryd.prog := E_isleaf.add 43 (Spec.pure (s1G 100)) (s1_all 100) (by kernel_rfl)

theorem stwo_meets : Meets Tryd.prog 44 (Spec.pure s2G) := by
 refine meets_fun (E_s1A.at_ 74) Tryd.func44 rfl rfl rfl ?_
 intro args p r hg hp
 unfold s2G at hg
 split at hg
 ·rename_i k xs ys
  simp only [Option.some.injEq, Prod.mk.injEq] at hg
  obtain ⟨rfl, rfl⟩ := hg
  obtain ⟨⟨he, hox, hls, hs1⟩, ⟨he2, hoy, hls2, hs2⟩, hk1, hk2, h39⟩ := hp
  generalize treQ (dN xs) = s at *
  generalize treQ (dN ys) = t at *
  generalize dN xs = q at *
  generalize dN ys = p at *
  subst he hls he2 hls2
  obtain ⟨xk, xm, xl, xr, rfl⟩ := dT_ne (okT_ne hox)
  obtain ⟨yk, ym, yl, yr, rfl⟩ := dT_ne (okT_ne hoy)
  have hij := ls_inj hox hoy hs1 hs2
  have hx1 := ls_leaf hox 1 (by omega)
  have hx2 := ls_leaf hox 2 (by omega)
  have hy1 := ls_leaf hoy 1 (by omega)
  have hy2 := ls_leaf hoy 2 (by omega)
  have hlx := lsT_len 0 (.nd xk xm xl xr)
  have hly := lsT_len 0 (.nd yk ym yl yr)
  have htx := tre_ls hox hs1
  have hty := tre_ls hoy hs2
  have hpx := lsP_ok hox hs1
  have hpy := lsP_ok hoy hs2
  have hmy := sm_ls hoy hs2
  generalize hQx : lsT 0 (.nd xk xm xl xr) = Q at *
  generalize hQy : lsT 0 (.nd yk ym yl yr) = U at *
  have hT : (E_s1A).X = T := rfl
  have hx0 := And.intro @rect_eN (And.intro @dN_rows (And.intro @dec_t (And.intro @dec_f @Tryd.results44)))
  have hx := hx0
  refine ⟨by rfl, ?_⟩
  intro F W0 hnp hmk
  refine vc_seq_k fun N1 h1 => ?_
  refine u_reg ?_
  try refine lg_mk ?_
  refine u_mv ?_
  refine lg_nil ?_
  refine h1 _ ?_; clear h1; try clear N1
  refine vc_seq_k fun N2 h2 => ?_
  by_cases hxy : (.nd xk xm xl xr : Tr) = .nd yk ym yl yr
  ·obtain ⟨hde, hei⟩ := eqI_t hxy
   have hee := hij.trans hde
   have hx := And.intro @hee hx0
   refine u_reg ?_
   try refine lg_mk ?_
   refine u_mv (hq := by (first | ((repeat' apply And.intro) <;> first | rfl | omega) | exact sd_)) ?_
   refine u_mv (hq := by (first | ((repeat' apply And.intro) <;> first | rfl | omega) | exact sd_)) ?_
   have hc := call_rule (E := (E_s1A.at_ 74)) (f := 69) (sp := Spec.pure sameG) rfl
   have hs := @sameG.eq_1
   refine u_cp (hq := by (first | ((repeat' apply And.intro) <;> first | rfl | omega) | exact sd_)) ?_
   refine u_mv (hq := by (first | ((repeat' apply And.intro) <;> first | rfl | omega) | exact sd_)) ?_
   refine lg_nil ?_
   have hx := hx0
   refine h2 _ ?_; clear h2; try clear N2
   refine vc_seq_k fun N3 h3 => ?_
   have hx := And.intro @hx2 (And.intro @hy2 hx0)
   refine u_reg ?_
   try refine lg_mk ?_
   refine u_mv (hq := by (first | ((repeat' apply And.intro) <;> first | rfl | omega) | exact sd_)) ?_
   have hc := call_rule (E := (E_s1A.at_ 74)) (f := 68) (sp := Spec.pure lfG) rfl
   have hs := @lfG.eq_1
   refine u_cp (hq := by (first | ((repeat' apply And.intro) <;> first | rfl | omega) | exact sd_)) ?_
   refine u_mv (hq := by (first | ((repeat' apply And.intro) <;> first | rfl | omega) | exact sd_)) ?_
   have hc := call_rule (E := (E_s1A.at_ 74)) (f := 68) (sp := Spec.pure lfG) rfl
   have hs := @lfG.eq_1
   refine u_cp (hq := by (first | ((repeat' apply And.intro) <;> first | rfl | omega) | exact sd_)) ?_
   refine u_mv (hq := by (first | ((repeat' apply And.intro) <;> first | rfl | omega) | exact sd_)) ?_
   refine u_mv (hq := by (first | ((repeat' apply And.intro) <;> first | rfl | omega) | exact sd_)) ?_
   refine lg_nil ?_
   have hx := hx0
   refine h3 _ ?_; clear h3; try clear N3
   refine vc_seq_k fun N4 h4 => ?_
   have hx := And.intro @hx1 (And.intro @hy1 hx0)
   refine u_reg ?_
   try refine lg_mk ?_
   refine u_mv (hq := by (first | ((repeat' apply And.intro) <;> first | rfl | omega) | exact sd_)) ?_
   have hc := call_rule (E := (E_s1A.at_ 74)) (f := 68) (sp := Spec.pure lfG) rfl
   have hs := @lfG.eq_1
   refine u_cp (hq := by (first | ((repeat' apply And.intro) <;> first | rfl | omega) | exact sd_)) ?_
   refine u_mv (hq := by (first | ((repeat' apply And.intro) <;> first | rfl | omega) | exact sd_)) ?_
   have hc := call_rule (E := (E_s1A.at_ 74)) (f := 68) (sp := Spec.pure lfG) rfl
   have hs := @lfG.eq_1
   refine u_cp (hq := by (first | ((repeat' apply And.intro) <;> first | rfl | omega) | exact sd_)) ?_
   refine u_mv (hq := by (first | ((repeat' apply And.intro) <;> first | rfl | omega) | exact sd_)) ?_
   refine u_mv (hq := by (first | ((repeat' apply And.intro) <;> first | rfl | omega) | exact sd_)) ?_
   refine lg_nil ?_
   have hx := hx0
   refine h4 _ ?_; clear h4; try clear N4
   refine vc_seq_k fun N5 h5 => ?_
   refine u_reg ?_
   try refine lg_mk ?_
   refine u_bd ?_
   refine u_bs ?_
   refine u_mv ?_
   refine lg_nil ?_
   refine h5 _ ?_; clear h5; try clear N5
   refine vc_seq_k fun N6 h6 => ?_
   refine vc_seq_k fun N7 h7 => ?_
   refine u_reg ?_
   try refine lg_mk ?_
   refine u_mv ?_
   refine lg_nil ?_
   refine h7 _ ?_; clear h7; try clear N7
   refine vc_block ?_
   refine vc_seq_k fun N8 h8 => ?_
   refine u_reg ?_
   try refine lg_mk ?_
   refine u_bn ?_
   refine u_mv ?_
   refine lg_nil ?_
   refine h8 _ ?_; clear h8; try clear N8
   refine u_cond (fun hb9 => ?_) (fun hb9 => ?_)
   ·refine vc_seq_k fun N10 h10 => ?_
    refine vc_seq_k fun N11 h11 => ?_
    refine u_reg ?_
    try refine lg_mk ?_
    refine u_mv ?_
    refine u_mv ?_
    refine g_mv ?_
    refine u_pk ?_
    refine u_mv ?_
    refine g_mv ?_
    refine u_pk ?_
    refine lg_nil ?_
    refine h11 _ ?_; clear h11; try clear N11
    refine u_cond (fun hb12 => ?_) (fun hb12 => ?_)
    ·refine vc_seq_k fun N13 h13 => ?_
     refine u_reg ?_
     try refine lg_mk ?_
     refine u_mv ?_
     refine u_mv ?_
     refine lg_nil ?_
     refine h13 _ ?_; clear h13; try clear N13
     refine vc_ret ?_
     try simp only [k_rules]
     have hr : twoT k (.nd xk xm xl xr) (.nd yk ym yl yr) = .nd 2 0 .nil .nil := by
      rw [two_ref ⟨hk1, hk2⟩ hox hoy, hei]
      unfold twoR
      rw [if_pos (by have k_t40 := hb9; (try simp at k_t40); omega), if_pos (by have k_t40 := hb9; (try simp at k_t40); have k_t48 := hb12; (try simp at k_t48); omega)]
     rw [hr]
     refine fin2_ ?_
     exact cl_
    ·first | omega | exact absurd trivial hb12 | contradiction | (simp_all; done)
   ·refine vc_seq_k fun N14 h14 => ?_
    refine u_reg ?_
    try refine lg_mk ?_
    refine u_bn ?_
    refine u_mv ?_
    refine lg_nil ?_
    refine h14 _ ?_; clear h14; try clear N14
    refine u_cond (fun hb15 => ?_) (fun hb15 => ?_)
    ·refine vc_seq_k fun N16 h16 => ?_
     refine vc_seq_k fun N17 h17 => ?_
     refine u_reg ?_
     try refine lg_mk ?_
     refine u_mv ?_
     refine u_mv ?_
     refine g_mv ?_
     refine u_pk ?_
     refine u_mv ?_
     refine g_mv ?_
     refine u_pk ?_
     refine lg_nil ?_
     refine h17 _ ?_; clear h17; try clear N17
     refine u_cond (fun hb18 => ?_) (fun hb18 => ?_)
     ·refine vc_seq_k fun N19 h19 => ?_
      refine u_reg ?_
      try refine lg_mk ?_
      refine u_mv ?_
      refine u_mv ?_
      refine lg_nil ?_
      refine h19 _ ?_; clear h19; try clear N19
      refine vc_ret ?_
      try simp only [k_rules]
      have hr : twoT k (.nd xk xm xl xr) (.nd yk ym yl yr) = .nd xk xm xl xr := by
       rw [two_ref ⟨hk1, hk2⟩ hox hoy, hei]
       unfold twoR
       rw [if_neg (by have k_t40 := hb9; (try simp at k_t40); omega), if_pos (by have k_t55 := hb15; (try simp at k_t55); omega), if_pos (by have k_t63 := hb18; (try simp at k_t63); omega)]
      rw [hr]
      rw [hQx]
      refine fin2_ ?_
      exact cl_
     ·first | omega | exact absurd trivial hb18 | contradiction | (simp_all; done)
    ·refine vc_seq_k fun N20 h20 => ?_
     refine vc_seq_k fun N21 h21 => ?_
     refine u_reg ?_
     try refine lg_mk ?_
     refine u_mv ?_
     refine u_mv ?_
     refine g_mv ?_
     refine u_pk ?_
     refine u_mv ?_
     refine g_mv ?_
     refine u_pk ?_
     refine lg_nil ?_
     refine h21 _ ?_; clear h21; try clear N21
     refine u_cond (fun hb22 => ?_) (fun hb22 => ?_)
     ·refine vc_seq_k fun N23 h23 => ?_
      refine u_reg ?_
      try refine lg_mk ?_
      refine u_mv ?_
      refine u_mv ?_
      refine lg_nil ?_
      refine h23 _ ?_; clear h23; try clear N23
      refine vc_ret ?_
      try simp only [k_rules]
      have hr : twoT k (.nd xk xm xl xr) (.nd yk ym yl yr) = .nd xk xm xl xr := by
       rw [two_ref ⟨hk1, hk2⟩ hox hoy, hei]
       unfold twoR
       rw [if_neg (by have k_t40 := hb9; (try simp at k_t40); omega), if_neg (by have k_t55 := hb15; (try simp at k_t55); omega), if_pos (by have k_t33 := hb22; (try simp at k_t33); omega)]
      rw [hr]
      rw [hQx]
      refine fin2_ ?_
      exact cl_
     ·first | omega | exact absurd trivial hb22 | contradiction | (simp_all; done)
  ·obtain ⟨hde, hei⟩ := eqI_f hxy
   have hee := hij.trans hde
   have hx := And.intro @hee hx0
   refine u_reg ?_
   try refine lg_mk ?_
   refine u_mv (hq := by (first | ((repeat' apply And.intro) <;> first | rfl | omega) | exact sd_)) ?_
   refine u_mv (hq := by (first | ((repeat' apply And.intro) <;> first | rfl | omega) | exact sd_)) ?_
   have hc := call_rule (E := (E_s1A.at_ 74)) (f := 69) (sp := Spec.pure sameG) rfl
   have hs := @sameG.eq_1
   refine u_cp (hq := by (first | ((repeat' apply And.intro) <;> first | rfl | omega) | exact sd_)) ?_
   refine u_mv (hq := by (first | ((repeat' apply And.intro) <;> first | rfl | omega) | exact sd_)) ?_
   refine lg_nil ?_
   have hx := hx0
   refine h2 _ ?_; clear h2; try clear N2
   refine vc_seq_k fun N24 h24 => ?_
   have hx := And.intro @hx2 (And.intro @hy2 hx0)
   refine u_reg ?_
   try refine lg_mk ?_
   refine u_mv (hq := by (first | ((repeat' apply And.intro) <;> first | rfl | omega) | exact sd_)) ?_
   have hc := call_rule (E := (E_s1A.at_ 74)) (f := 68) (sp := Spec.pure lfG) rfl
   have hs := @lfG.eq_1
   refine u_cp (hq := by (first | ((repeat' apply And.intro) <;> first | rfl | omega) | exact sd_)) ?_
   refine u_mv (hq := by (first | ((repeat' apply And.intro) <;> first | rfl | omega) | exact sd_)) ?_
   have hc := call_rule (E := (E_s1A.at_ 74)) (f := 68) (sp := Spec.pure lfG) rfl
   have hs := @lfG.eq_1
   refine u_cp (hq := by (first | ((repeat' apply And.intro) <;> first | rfl | omega) | exact sd_)) ?_
   refine u_mv (hq := by (first | ((repeat' apply And.intro) <;> first | rfl | omega) | exact sd_)) ?_
   refine u_mv (hq := by (first | ((repeat' apply And.intro) <;> first | rfl | omega) | exact sd_)) ?_
   refine lg_nil ?_
   have hx := hx0
   refine h24 _ ?_; clear h24; try clear N24
   refine vc_seq_k fun N25 h25 => ?_
   have hx := And.intro @hx1 (And.intro @hy1 hx0)
   refine u_reg ?_
   try refine lg_mk ?_
   refine u_mv (hq := by (first | ((repeat' apply And.intro) <;> first | rfl | omega) | exact sd_)) ?_
   have hc := call_rule (E := (E_s1A.at_ 74)) (f := 68) (sp := Spec.pure lfG) rfl
   have hs := @lfG.eq_1
   refine u_cp (hq := by (first | ((repeat' apply And.intro) <;> first | rfl | omega) | exact sd_)) ?_
   refine u_mv (hq := by (first | ((repeat' apply And.intro) <;> first | rfl | omega) | exact sd_)) ?_
   have hc := call_rule (E := (E_s1A.at_ 74)) (f := 68) (sp := Spec.pure lfG) rfl
   have hs := @lfG.eq_1
   refine u_cp (hq := by (first | ((repeat' apply And.intro) <;> first | rfl | omega) | exact sd_)) ?_
   refine u_mv (hq := by (first | ((repeat' apply And.intro) <;> first | rfl | omega) | exact sd_)) ?_
   refine u_mv (hq := by (first | ((repeat' apply And.intro) <;> first | rfl | omega) | exact sd_)) ?_
   refine lg_nil ?_
   have hx := hx0
   refine h25 _ ?_; clear h25; try clear N25
   refine vc_seq_k fun N26 h26 => ?_
   refine u_reg ?_
   try refine lg_mk ?_
   refine u_bd ?_
   refine u_bs ?_
   refine u_mv ?_
   refine lg_nil ?_
   refine h26 _ ?_; clear h26; try clear N26
   refine vc_seq_k fun N27 h27 => ?_
   refine vc_seq_k fun N28 h28 => ?_
   refine u_reg ?_
   try refine lg_mk ?_
   refine u_mv ?_
   refine lg_nil ?_
   refine h28 _ ?_; clear h28; try clear N28
   refine vc_block ?_
   refine vc_seq_k fun N29 h29 => ?_
   refine u_reg ?_
   try refine lg_mk ?_
   refine u_bn ?_
   refine u_mv ?_
   refine lg_nil ?_
   refine h29 _ ?_; clear h29; try clear N29
   refine u_cond (fun hb30 => ?_) (fun hb30 => ?_)
   ·refine vc_seq_k fun N31 h31 => ?_
    refine vc_seq_k fun N32 h32 => ?_
    refine u_reg ?_
    try refine lg_mk ?_
    refine u_mv ?_
    refine u_mv ?_
    refine g_mv ?_
    refine u_pk ?_
    refine u_mv ?_
    refine g_mv ?_
    refine u_pk ?_
    refine lg_nil ?_
    refine h32 _ ?_; clear h32; try clear N32
    refine u_cond (fun hb33 => ?_) (fun hb33 => ?_)
    ·refine vc_seq_k fun N34 h34 => ?_
     refine u_reg ?_
     try refine lg_mk ?_
     refine u_mv ?_
     refine u_mv ?_
     refine lg_nil ?_
     refine h34 _ ?_; clear h34; try clear N34
     refine vc_ret ?_
     try simp only [k_rules]
     have hr : twoT k (.nd xk xm xl xr) (.nd yk ym yl yr) = .nd 2 0 .nil .nil := by
      rw [two_ref ⟨hk1, hk2⟩ hox hoy, hei]
      unfold twoR
      rw [if_pos (by have k_t40 := hb30; (try simp at k_t40); omega), if_pos (by have k_t40 := hb30; (try simp at k_t40); have k_t48 := hb33; (try simp at k_t48); omega)]
     rw [hr]
     refine fin2_ ?_
     exact cl_
    ·refine vc_skip ?_
     try simp only [k_rules]
     refine h31 _ ?_; clear h31; try clear N31
     refine vc_seq_k fun N35 h35 => ?_
     refine vc_seq_k fun N36 h36 => ?_
     refine u_reg ?_
     try refine lg_mk ?_
     refine u_mv ?_
     refine lg_nil ?_
     refine h36 _ ?_; clear h36; try clear N36
     refine u_cond (fun hb37 => ?_) (fun hb37 => ?_)
     ·refine vc_seq_k fun N38 h38 => ?_
      refine u_reg ?_
      try refine lg_mk ?_
      refine u_mv ?_
      refine u_mv ?_
      refine lg_nil ?_
      refine h38 _ ?_; clear h38; try clear N38
      refine vc_ret ?_
      try simp only [k_rules]
      have hr : twoT k (.nd xk xm xl xr) (.nd yk ym yl yr) = .nd xk xm xl xr := by
       rw [two_ref ⟨hk1, hk2⟩ hox hoy, hei]
       unfold twoR
       rw [if_pos (by have k_t40 := hb30; (try simp at k_t40); omega), if_neg (by have k_t40 := hb30; (try simp at k_t40); have k_t48 := hb33; (try simp at k_t48); omega), if_pos (by have k_t50 := hb37; (try simp at k_t50); omega)]
      rw [hr]
      rw [hQx]
      refine fin2_ ?_
      exact cl_
     ·refine vc_skip ?_
      try simp only [k_rules]
      refine h35 _ ?_; clear h35; try clear N35
      refine vc_seq_k fun N39 h39 => ?_
      refine u_reg ?_
      try refine lg_mk ?_
      refine u_mv ?_
      refine lg_nil ?_
      refine h39 _ ?_; clear h39; try clear N39
      refine u_cond (fun hb40 => ?_) (fun hb40 => ?_)
      ·refine vc_seq_k fun N41 h41 => ?_
       have hx := And.intro @hty hx0
       refine u_reg ?_
       try refine lg_mk ?_
       refine u_mv ?_
       have hc := call_rule (E := (E_s1A.at_ 74)) (f := 43) (sp := Spec.pure (s1G 100)) rfl
       have hs := @s1G.eq_1
       refine u_hp (hq := by (first | (exact ⟨hpy, by first | omega | (rw [hty]; omega), by omega, by omega⟩) | exact sd_)) ?_
       refine u_mv ?_
       refine lg_nil ?_
       have hx := hx0
       refine h41 _ ?_; clear h41; try clear N41
       refine vc_ret ?_
       try simp only [k_rules]
       have hr : twoT k (.nd xk xm xl xr) (.nd yk ym yl yr) = oneT 7 (.nd yk ym yl yr) := by
        rw [two_ref ⟨hk1, hk2⟩ hox hoy, hei]
        unfold twoR
        rw [if_pos (by have k_t40 := hb30; (try simp at k_t40); omega), if_neg (by have k_t48 := hb33; (try simp at k_t48); omega), if_neg (by have k_t50 := hb37; (try simp at k_t50); omega), if_pos (by have k_t52 := hb40; (try simp at k_t52); omega)]
       rw [hr]
       refine fin2_ ?_
       exact cl_
      ·refine vc_skip ?_
       try simp only [k_rules]
       refine h27 _ ?_; clear h27; try clear N27
       refine vc_seq_k fun N42 h42 => ?_
       refine u_reg ?_
       try refine lg_mk ?_
       refine u_mv (hq := by (first | (exact ⟨rfl, by omega, rfl, by omega, hmy⟩) | exact sd_)) ?_
       refine u_mv (hq := by (first | (exact ⟨rfl, by omega, rfl, by omega, hmy⟩) | exact sd_)) ?_
       refine u_mv (hq := by (first | (exact ⟨rfl, by omega, rfl, by omega, hmy⟩) | exact sd_)) ?_
       have hc := call_rule (E := (E_s1A.at_ 74)) (f := 45) (sp := Spec.pure jnG) rfl
       have hs := @jnG.eq_1
       refine u_hp (hq := by (first | (exact ⟨rfl, by omega, rfl, by omega, hmy⟩) | exact sd_)) ?_
       refine u_mv (hq := by (first | (exact ⟨rfl, by omega, rfl, by omega, hmy⟩) | exact sd_)) ?_
       refine lg_nil ?_
       refine h42 _ ?_; clear h42; try clear N42
       refine vc_ret ?_
       try simp only [k_rules]
       have hr : twoT k (.nd xk xm xl xr) (.nd yk ym yl yr) = .nd k 0 (.nd xk xm xl xr) (.nd yk ym yl yr) := by
        rw [two_ref ⟨hk1, hk2⟩ hox hoy, hei]
        unfold twoR
        rw [if_pos (by have k_t40 := hb30; (try simp at k_t40); omega), if_neg (by have k_t48 := hb33; (try simp at k_t48); omega), if_neg (by have k_t50 := hb37; (try simp at k_t50); omega), if_neg (by have k_t52 := hb40; (try simp at k_t52); omega)]
       rw [hr]
       rw [ls_two hox hoy, hQx, hQy]
       refine fin2_ ?_
       exact cl_
   ·refine vc_seq_k fun N43 h43 => ?_
    refine u_reg ?_
    try refine lg_mk ?_
    refine u_bn ?_
    refine u_mv ?_
    refine lg_nil ?_
    refine h43 _ ?_; clear h43; try clear N43
    refine u_cond (fun hb44 => ?_) (fun hb44 => ?_)
    ·refine vc_seq_k fun N45 h45 => ?_
     refine vc_seq_k fun N46 h46 => ?_
     refine u_reg ?_
     try refine lg_mk ?_
     refine u_mv ?_
     refine u_mv ?_
     refine g_mv ?_
     refine u_pk ?_
     refine u_mv ?_
     refine g_mv ?_
     refine u_pk ?_
     refine lg_nil ?_
     refine h46 _ ?_; clear h46; try clear N46
     refine u_cond (fun hb47 => ?_) (fun hb47 => ?_)
     ·refine vc_seq_k fun N48 h48 => ?_
      refine u_reg ?_
      try refine lg_mk ?_
      refine u_mv ?_
      refine u_mv ?_
      refine lg_nil ?_
      refine h48 _ ?_; clear h48; try clear N48
      refine vc_ret ?_
      try simp only [k_rules]
      have hr : twoT k (.nd xk xm xl xr) (.nd yk ym yl yr) = .nd xk xm xl xr := by
       rw [two_ref ⟨hk1, hk2⟩ hox hoy, hei]
       unfold twoR
       rw [if_neg (by have k_t40 := hb30; (try simp at k_t40); omega), if_pos (by have k_t55 := hb44; (try simp at k_t55); omega), if_pos (by have k_t63 := hb47; (try simp at k_t63); omega)]
      rw [hr]
      rw [hQx]
      refine fin2_ ?_
      exact cl_
     ·refine vc_skip ?_
      try simp only [k_rules]
      refine h45 _ ?_; clear h45; try clear N45
      refine vc_seq_k fun N49 h49 => ?_
      refine u_reg ?_
      try refine lg_mk ?_
      refine u_mv ?_
      refine u_mv ?_
      refine g_mv ?_
      refine u_pk ?_
      refine lg_nil ?_
      refine h49 _ ?_; clear h49; try clear N49
      refine u_cond (fun hb50 => ?_) (fun hb50 => ?_)
      ·refine vc_seq_k fun N51 h51 => ?_
       refine u_reg ?_
       try refine lg_mk ?_
       refine u_mv ?_
       refine u_mv ?_
       refine lg_nil ?_
       refine h51 _ ?_; clear h51; try clear N51
       refine vc_ret ?_
       try simp only [k_rules]
       have hr : twoT k (.nd xk xm xl xr) (.nd yk ym yl yr) = .nd yk ym yl yr := by
        rw [two_ref ⟨hk1, hk2⟩ hox hoy, hei]
        unfold twoR
        rw [if_neg (by have k_t40 := hb30; (try simp at k_t40); omega), if_pos (by have k_t55 := hb44; (try simp at k_t55); omega), if_neg (by have k_t63 := hb47; (try simp at k_t63); omega), if_pos (by have k_t68 := hb50; (try simp at k_t68); omega)]
       rw [hr]
       rw [hQy]
       refine fin2_ ?_
       exact cl_
      ·refine vc_skip ?_
       try simp only [k_rules]
       refine h27 _ ?_; clear h27; try clear N27
       refine vc_seq_k fun N52 h52 => ?_
       refine u_reg ?_
       try refine lg_mk ?_
       refine u_mv (hq := by (first | (exact ⟨rfl, by omega, rfl, by omega, hmy⟩) | exact sd_)) ?_
       refine u_mv (hq := by (first | (exact ⟨rfl, by omega, rfl, by omega, hmy⟩) | exact sd_)) ?_
       refine u_mv (hq := by (first | (exact ⟨rfl, by omega, rfl, by omega, hmy⟩) | exact sd_)) ?_
       have hc := call_rule (E := (E_s1A.at_ 74)) (f := 45) (sp := Spec.pure jnG) rfl
       have hs := @jnG.eq_1
       refine u_hp (hq := by (first | (exact ⟨rfl, by omega, rfl, by omega, hmy⟩) | exact sd_)) ?_
       refine u_mv (hq := by (first | (exact ⟨rfl, by omega, rfl, by omega, hmy⟩) | exact sd_)) ?_
       refine lg_nil ?_
       refine h52 _ ?_; clear h52; try clear N52
       refine vc_ret ?_
       try simp only [k_rules]
       have hr : twoT k (.nd xk xm xl xr) (.nd yk ym yl yr) = .nd k 0 (.nd xk xm xl xr) (.nd yk ym yl yr) := by
        rw [two_ref ⟨hk1, hk2⟩ hox hoy, hei]
        unfold twoR
        rw [if_neg (by have k_t40 := hb30; (try simp at k_t40); omega), if_pos (by have k_t55 := hb44; (try simp at k_t55); omega), if_neg (by have k_t63 := hb47; (try simp at k_t63); omega), if_neg (by have k_t68 := hb50; (try simp at k_t68); omega)]
       rw [hr]
       rw [ls_two hox hoy, hQx, hQy]
       refine fin2_ ?_
       exact cl_
    ·refine vc_seq_k fun N53 h53 => ?_
     refine vc_seq_k fun N54 h54 => ?_
     refine u_reg ?_
     try refine lg_mk ?_
     refine u_mv ?_
     refine u_mv ?_
     refine g_mv ?_
     refine u_pk ?_
     refine u_mv ?_
     refine g_mv ?_
     refine u_pk ?_
     refine lg_nil ?_
     refine h54 _ ?_; clear h54; try clear N54
     refine u_cond (fun hb55 => ?_) (fun hb55 => ?_)
     ·refine vc_seq_k fun N56 h56 => ?_
      refine u_reg ?_
      try refine lg_mk ?_
      refine u_mv ?_
      refine u_mv ?_
      refine lg_nil ?_
      refine h56 _ ?_; clear h56; try clear N56
      refine vc_ret ?_
      try simp only [k_rules]
      have hr : twoT k (.nd xk xm xl xr) (.nd yk ym yl yr) = .nd xk xm xl xr := by
       rw [two_ref ⟨hk1, hk2⟩ hox hoy, hei]
       unfold twoR
       rw [if_neg (by have k_t40 := hb30; (try simp at k_t40); omega), if_neg (by have k_t55 := hb44; (try simp at k_t55); omega), if_pos (by have k_t33 := hb55; (try simp at k_t33); omega)]
      rw [hr]
      rw [hQx]
      refine fin2_ ?_
      exact cl_
     ·refine vc_skip ?_
      try simp only [k_rules]
      refine h53 _ ?_; clear h53; try clear N53
      refine vc_seq_k fun N57 h57 => ?_
      refine u_reg ?_
      try refine lg_mk ?_
      refine u_mv ?_
      refine u_mv ?_
      refine g_mv ?_
      refine u_pk ?_
      refine lg_nil ?_
      refine h57 _ ?_; clear h57; try clear N57
      refine u_cond (fun hb58 => ?_) (fun hb58 => ?_)
      ·refine vc_seq_k fun N59 h59 => ?_
       refine u_reg ?_
       try refine lg_mk ?_
       refine u_mv ?_
       refine u_mv ?_
       refine lg_nil ?_
       refine h59 _ ?_; clear h59; try clear N59
       refine vc_ret ?_
       try simp only [k_rules]
       have hr : twoT k (.nd xk xm xl xr) (.nd yk ym yl yr) = .nd yk ym yl yr := by
        rw [two_ref ⟨hk1, hk2⟩ hox hoy, hei]
        unfold twoR
        rw [if_neg (by have k_t40 := hb30; (try simp at k_t40); omega), if_neg (by have k_t55 := hb44; (try simp at k_t55); omega), if_neg (by have k_t33 := hb55; (try simp at k_t33); omega), if_pos (by have k_t38 := hb58; (try simp at k_t38); omega)]
       rw [hr]
       rw [hQy]
       refine fin2_ ?_
       exact cl_
      ·refine vc_skip ?_
       try simp only [k_rules]
       refine h27 _ ?_; clear h27; try clear N27
       refine vc_seq_k fun N60 h60 => ?_
       refine u_reg ?_
       try refine lg_mk ?_
       refine u_mv (hq := by (first | (exact ⟨rfl, by omega, rfl, by omega, hmy⟩) | exact sd_)) ?_
       refine u_mv (hq := by (first | (exact ⟨rfl, by omega, rfl, by omega, hmy⟩) | exact sd_)) ?_
       refine u_mv (hq := by (first | (exact ⟨rfl, by omega, rfl, by omega, hmy⟩) | exact sd_)) ?_
       have hc := call_rule (E := (E_s1A.at_ 74)) (f := 45) (sp := Spec.pure jnG) rfl
       have hs := @jnG.eq_1
       refine u_hp (hq := by (first | (exact ⟨rfl, by omega, rfl, by omega, hmy⟩) | exact sd_)) ?_
       refine u_mv (hq := by (first | (exact ⟨rfl, by omega, rfl, by omega, hmy⟩) | exact sd_)) ?_
       refine lg_nil ?_
       refine h60 _ ?_; clear h60; try clear N60
       refine vc_ret ?_
       try simp only [k_rules]
       have hr : twoT k (.nd xk xm xl xr) (.nd yk ym yl yr) = .nd k 0 (.nd xk xm xl xr) (.nd yk ym yl yr) := by
        rw [two_ref ⟨hk1, hk2⟩ hox hoy, hei]
        unfold twoR
        rw [if_neg (by have k_t40 := hb30; (try simp at k_t40); omega), if_neg (by have k_t55 := hb44; (try simp at k_t55); omega), if_neg (by have k_t33 := hb55; (try simp at k_t33); omega), if_neg (by have k_t38 := hb58; (try simp at k_t38); omega)]
       rw [hr]
       rw [ls_two hox hoy, hQx, hQy]
       refine fin2_ ?_
       exact cl_
 ·cases hg

def E_stwo : Env Tryd.prog := E_s1A.add 44 (Spec.pure s2G) stwo_meets (by kernel_rfl)
end Go.Proofs.YtlbjffdaooadoaaDoor
