/- Walks, printed by wip/gen/walk.py. -/
import Derived.Test.YtlbjffdaooadoaaDoorT64
import Derived.Test.YtlbjffdaooadoaaDoorV5
set_option linter.all false
set_option maxRecDepth 100000
set_option maxHeartbeats 4000000
namespace Go.Proofs.YtlbjffdaooadoaaDoor
open Go Go.Vc Go.RowKit
def srvG (fu : Nat) : List AV → Option (Prop × AV)
  | [.agg [.d (.sl xs)], .d (.int .i64 i)] => some (xs = rows eN (dN xs) ∧ okQ (dN xs) ∧ 0 ≤ i ∧ i < fu ∧ i < (dN xs).length, .d (.sl (rows eN (lsT 0 (simT ((opnT (dN xs) fu i.toNat).getD .nil))))))
  | _ => none
def E_sv (n : Nat) (ks : Meets Tryd.prog 20 (Spec.pure (srvG n))) : Env Tryd.prog := E_stwo.add 20 (Spec.pure (srvG n)) ks (by kernel_rfl)
theorem srv_cases {q : List Nd} (hok : okQ q) {fu i : Nat} (hf : i < fu + 1) (hi : i < q.length) : ∃ a b c d R, q[i]? = some ⟨a, b, c, d⟩ ∧ opnT q (fu + 1) i = some R ∧
    ((ar a = 0 ∧ simT R = R ∧ lsT 0 R = [⟨a, b, c, d⟩]) ∨
     (ar a = 1 ∧ 7 ≤ a ∧ a ≤ 13 ∧ 0 ≤ c ∧ c < fu ∧ c < q.length ∧ ∃ A, opnT q fu c.toNat = some A ∧ simT R = oneT a (simT A) ∧ lsP (rows eN (lsT 0 (simT A))) ∧ treQ (lsT 0 (simT A)) = simT A ∧ szT (simT A) ≤ 39) ∨
     (ar a = 2 ∧ 14 ≤ a ∧ a ≤ 16 ∧ 0 ≤ c ∧ c < fu ∧ c < q.length ∧ 0 ≤ d ∧ d < fu ∧ d < q.length ∧ ∃ A B, opnT q fu c.toNat = some A ∧ opnT q fu d.toNat = some B ∧ simT R = twoT a (simT A) (simT B) ∧
       lsP (rows eN (lsT 0 (simT A))) ∧ treQ (lsT 0 (simT A)) = simT A ∧ lsP (rows eN (lsT 0 (simT B))) ∧ treQ (lsT 0 (simT B)) = simT B ∧ szT (simT A) + szT (simT B) ≤ 39)) := by
  obtain ⟨R, hR, hRo, hRs⟩ := opn_tot hok (fu + 1) i hf hi
  obtain ⟨n, hn, hc⟩ := opn_cases hR
  obtain ⟨h1, h2, h3, h4, h5, h6, h7⟩ := ok_node hok hi (getD_nd hn)
  have hq := hok.2.1
  have hsz := (szI_le hok hi).2
  obtain ⟨a, b, c, d⟩ := n
  dsimp only at h1 h2 h3 h4 h5 h6 h7 hc
  refine ⟨a, b, c, d, R, hn, hR, ?_⟩
  rcases hc with ⟨ha, rfl⟩ | ⟨ha, A, hA, rfl⟩ | ⟨ha, A, B, hA, hB, rfl⟩
  · obtain ⟨rfl, rfl, _⟩ := h5 ha
    refine .inl ⟨ha, ?_, rfl⟩
    rcases sim_c hRo with ⟨_, hS⟩ | ⟨h9, _⟩ | ⟨h9, _⟩
    · exact hS
    · omega
    · omega
  · obtain ⟨g1, g2, g3, g4⟩ := h6 ha
    rcases sim_c hRo with ⟨h9, _⟩ | ⟨_, k1, k2, hl, hS⟩ | ⟨h9, _⟩
    · omega
    · have i1 := sim_ok hl
      rw [szT_nd] at hRs
      exact .inr (.inl ⟨ha, k1, k2, by omega, by omega, by omega, A, hA, hS, lsP_ok i1.1 (by omega), tre_ls i1.1 (by omega), by omega⟩)
    · omega
  · obtain ⟨g1, g2, g3, g4⟩ := h7 ha
    rcases sim_c hRo with ⟨h9, _⟩ | ⟨h9, _⟩ | ⟨_, k1, k2, hl, hr, hS⟩
    · omega
    · omega
    · have i1 := sim_ok hl
      have i2 := sim_ok hr
      rw [szT_nd] at hRs
      exact .inr (.inr ⟨ha, k1, k2, by omega, by omega, by omega, by omega, by omega, by omega, A, B, hA, hB, hS, lsP_ok i1.1 (by omega), tre_ls i1.1 (by omega), lsP_ok i2.1 (by omega), tre_ls i2.1 (by omega), by omega⟩)

theorem srv_step (fu : Nat) (ks : Meets Tryd.prog 20 (Spec.pure (srvG fu))) : Meets Tryd.prog 20 (Spec.pure (srvG (fu + 1))) := by
 refine meets_fun ((E_sv fu ks).at_ 38) Tryd.func20 rfl rfl rfl ?_
 intro args p r hg hp
 unfold srvG at hg
 split at hg
 ·rename_i xs i
  simp only [Option.some.injEq, Prod.mk.injEq] at hg
  obtain ⟨rfl, rfl⟩ := hg
  obtain ⟨he, hok, hi0, hif, hil⟩ := hp
  generalize dN xs = q at *
  subst he
  obtain ⟨i, rfl⟩ := Int.eq_ofNat_of_zero_le hi0
  simp only [Int.toNat_natCast]
  have hil2 : i < q.length := by omega
  obtain ⟨a, b, c, d, R, hn, hR, hcs⟩ := srv_cases hok (fu := fu) (by omega) hil2
  rw [hR, getD_tr]
  have hT : ((E_sv fu ks)).X = T := rfl
  have hx0 := And.intro @rect_eN (And.intro @dN_rows (And.intro @dec_t (And.intro @dec_f (And.intro @Int.toNat_natCast (And.intro @getD_tr @Tryd.results20)))))
  have hx := hx0
  refine ⟨by rfl, ?_⟩
  intro F W0 hnp hmk
  refine vc_seq_k fun N1 h1 => ?_
  refine u_reg ?_
  try refine lg_mk ?_
  refine u_bx ?_
  refine u_mv ?_
  refine lg_nil ?_
  refine h1 _ ?_; clear h1; try clear N1
  refine vc_seq_k fun N2 h2 => ?_
  have hx := And.intro @hn (And.intro @eN.eq_1 hx0)
  refine u_reg ?_
  try refine lg_mk ?_
  refine u_pt ?_
  refine u_ld ?_
  refine u_mv ?_
  refine u_pt ?_
  refine u_ld ?_
  refine u_al ?_
  refine u_st ?_
  refine lg_nil ?_
  have hx := hx0
  refine h2 _ ?_; clear h2; try clear N2
  refine vc_seq_k fun N3 h3 => ?_
  refine vc_seq_k fun N4 h4 => ?_
  rcases hcs with ⟨ha, hS, hL⟩ | ⟨ha, ka, kb, hc1, hc2, hc3, A, hA, hS, hpA, htA, hz⟩ | ⟨ha, ka, kb, hc1, hc2, hc3, hd1, hd2, hd3, A, B, hA, hB, hS, hpA, htA, hpB, htB, hz⟩
  ·have hx := And.intro @ha hx0
   refine u_reg ?_
   try refine lg_mk ?_
   refine u_pt ?_
   refine u_ld ?_
   have hc := call_rule (E := ((E_sv fu ks).at_ 38)) (f := 40) (sp := Spec.pure arG) rfl
   have hs := @arG.eq_1
   refine u_cp ?_
   refine lg_nil ?_
   have hx := hx0
   refine h4 _ ?_; clear h4; try clear N4
   refine vc_block ?_
   refine vc_seq_k fun N5 h5 => ?_
   refine u_reg ?_
   try refine lg_mk ?_
   refine u_bn ?_
   refine u_mv ?_
   refine lg_nil ?_
   refine h5 _ ?_; clear h5; try clear N5
   refine u_cond (fun hb6 => ?_) (fun hb6 => ?_)
   ·refine vc_seq_k fun N7 h7 => ?_
    refine u_reg ?_
    try refine lg_mk ?_
    refine u_ld ?_
    refine u_bs ?_
    refine u_mv ?_
    refine lg_nil ?_
    refine h7 _ ?_; clear h7; try clear N7
    refine vc_ret ?_
    try simp only [k_rules]
    rw [hS, hL]
    refine fin2_ ?_
    (repeat' apply And.intro) <;> (first | (first | rfl | trivial | (simp [rows, eN]; done)) | exact cl_)
   ·first | omega | exact absurd trivial hb6 | contradiction | (simp_all; done)
  ·have hx := And.intro @ha hx0
   refine u_reg ?_
   try refine lg_mk ?_
   refine u_pt ?_
   refine u_ld ?_
   have hc := call_rule (E := ((E_sv fu ks).at_ 38)) (f := 40) (sp := Spec.pure arG) rfl
   have hs := @arG.eq_1
   refine u_cp ?_
   refine lg_nil ?_
   have hx := hx0
   refine h4 _ ?_; clear h4; try clear N4
   refine vc_block ?_
   refine vc_seq_k fun N8 h8 => ?_
   refine u_reg ?_
   try refine lg_mk ?_
   refine u_bn ?_
   refine u_mv ?_
   refine lg_nil ?_
   refine h8 _ ?_; clear h8; try clear N8
   refine u_cond (fun hb9 => ?_) (fun hb9 => ?_)
   ·first | omega | exact absurd trivial hb9 | contradiction | (simp_all; done)
   ·refine vc_seq_k fun N10 h10 => ?_
    refine u_reg ?_
    try refine lg_mk ?_
    refine u_bn ?_
    refine u_mv ?_
    refine lg_nil ?_
    refine h10 _ ?_; clear h10; try clear N10
    refine u_cond (fun hb11 => ?_) (fun hb11 => ?_)
    ·refine vc_seq_k fun N12 h12 => ?_
     have hx := And.intro @hA (And.intro @htA hx0)
     refine vc_regG [20, 43] hmix (by kernel_rfl) ?_
     try refine lg_mk ?_
     refine u_pt ?_
     refine u_ld ?_
     refine u_ld ?_
     refine u_pt ?_
     refine u_ld ?_
     have hc := call_rule (E := ((E_sv fu ks).at_ 38)) (f := 20) (sp := Spec.pure (srvG fu)) rfl
     have hs := @srvG.eq_1
     refine u_hp (hq := by (first | (exact ⟨rfl, hok, hc1, hc2, hc3⟩) | exact sd_)) ?_
     have hc := call_rule (E := ((E_sv fu ks).at_ 38)) (f := 43) (sp := Spec.pure (s1G 100)) rfl
     have hs := @s1G.eq_1
     refine u_hp (hq := by (first | (exact ⟨hpA, by first | omega | (rw [htA]; omega), ka, kb⟩) | exact sd_)) ?_
     refine u_mv ?_
     refine lg_nil ?_
     have hx := hx0
     refine h12 _ ?_; clear h12; try clear N12
     refine vc_ret ?_
     try simp only [k_rules]
     rw [hS]
     refine fin2_ ?_
     exact cl_
    ·first | omega | exact absurd trivial hb11 | contradiction | (simp_all; done)
  ·have hx := And.intro @ha hx0
   refine u_reg ?_
   try refine lg_mk ?_
   refine u_pt ?_
   refine u_ld ?_
   have hc := call_rule (E := ((E_sv fu ks).at_ 38)) (f := 40) (sp := Spec.pure arG) rfl
   have hs := @arG.eq_1
   refine u_cp ?_
   refine lg_nil ?_
   have hx := hx0
   refine h4 _ ?_; clear h4; try clear N4
   refine vc_block ?_
   refine vc_seq_k fun N13 h13 => ?_
   refine u_reg ?_
   try refine lg_mk ?_
   refine u_bn ?_
   refine u_mv ?_
   refine lg_nil ?_
   refine h13 _ ?_; clear h13; try clear N13
   refine u_cond (fun hb14 => ?_) (fun hb14 => ?_)
   ·first | omega | exact absurd trivial hb14 | contradiction | (simp_all; done)
   ·refine vc_seq_k fun N15 h15 => ?_
    refine u_reg ?_
    try refine lg_mk ?_
    refine u_bn ?_
    refine u_mv ?_
    refine lg_nil ?_
    refine h15 _ ?_; clear h15; try clear N15
    refine u_cond (fun hb16 => ?_) (fun hb16 => ?_)
    ·first | omega | exact absurd trivial hb16 | contradiction | (simp_all; done)
    ·refine vc_skip ?_
     try simp only [k_rules]
     refine h3 _ ?_; clear h3; try clear N3
     refine vc_seq_k fun N17 h17 => ?_
     have hx := And.intro @hA (And.intro @hB (And.intro @htA (And.intro @htB hx0)))
     refine vc_regO [20, 44] [0, 1, 2, 3, 4, 6, 7, 8, 5, 9, 10, 11] hmix (by kernel_rfl) ?_
     simp only [pick_rules, list_rules]
     try refine lg_mk ?_
     refine u_pt ?_
     refine u_ld ?_
     refine u_ld ?_
     refine u_pt ?_
     refine u_ld ?_
     refine u_ld ?_
     refine u_pt ?_
     refine u_ld ?_
     have hc := call_rule (E := ((E_sv fu ks).at_ 38)) (f := 20) (sp := Spec.pure (srvG fu)) rfl
     have hs := @srvG.eq_1
     refine u_hp (hq := by (first | (exact ⟨rfl, hok, hc1, hc2, hc3⟩) | exact sd_)) ?_
     have hc := call_rule (E := ((E_sv fu ks).at_ 38)) (f := 20) (sp := Spec.pure (srvG fu)) rfl
     have hs := @srvG.eq_1
     refine u_hp (hq := by (first | (exact ⟨rfl, hok, hd1, hd2, hd3⟩) | exact sd_)) ?_
     have hc := call_rule (E := ((E_sv fu ks).at_ 38)) (f := 44) (sp := Spec.pure s2G) rfl
     have hs := @s2G.eq_1
     refine u_hp (hq := by (first | (exact ⟨hpA, hpB, ka, kb, by first | omega | (rw [htA, htB]; omega)⟩) | exact sd_)) ?_
     refine u_mv ?_
     refine lg_nil ?_
     have hx := hx0
     refine h17 _ ?_; clear h17; try clear N17
     refine vc_ret ?_
     try simp only [k_rules]
     rw [hS]
     refine fin2_ ?_
     exact cl_
 ·cases hg
end Go.Proofs.YtlbjffdaooadoaaDoor
