/- Walks, printed by wip/gen/walk.py. -/
import Derived.Test.YtlbjffdaooadoaaDoorT32
import Derived.Test.YtlbjffdaooadoaaDoorV5
set_option linter.all false
set_option maxRecDepth 100000
set_option maxHeartbeats 4000000
namespace Go.Proofs.YtlbjffdaooadoaaDoor
open Go Go.Vc Go.RowKit
def bndN (k : Int) : Nat := if k = 14 then 0 else if k = 15 ∨ k = 16 then 1 else if k = 7 then 2 else 3
def parS (q : List Nd) (i : Int) (l : Nat) (A : Bs) : Bs := if lvN (q.getD i.toNat default).kd < l then [40] ++ A ++ [41] else A
theorem bnd_lv (k : Int) : bndN k = lvN k ∨ (2 ≤ bndN k ∧ lvN k = 2) := by
  unfold bndN lvN
  split
  · exact .inl rfl
  · split
    · exact .inl rfl
    · split
      · exact .inl rfl
      · exact .inr ⟨by omega, rfl⟩
theorem bnd_le (k : Int) : bndN k ≤ 3 := by unfold bndN; split <;> (try split) <;> (try split) <;> omega
theorem shQ_zero {q : List Nd} {f : Nat} {i : Int} {l : Nat} {r : Bs} (h : shQ q f i.toNat l = some r) : ∃ A, shQ q f i.toNat 0 = some A ∧ r = parS q i l A := by
  match f, h with
  | f + 1, h =>
    obtain ⟨n, s, hn, hs, hl, hr⟩ := shQ_step h
    refine ⟨s, ?_, ?_⟩
    · unfold shQ
      rw [hn]
      show (shB (shQ q f) n).bind _ = _
      rw [hs]
      show (if s.length ≤ 100000 then _ else _) = _
      rw [if_pos hl, if_neg (by omega)]
    · rw [hr]; unfold parS; rw [getD_nd hn]
theorem sh_parts {q : List Nd} {f : Nat} {n : Nd} {S : Bs} (h : shB (shQ q f) n = some S) (h3 : n.kd ≠ 3) (h45 : ¬(n.kd = 4 ∨ n.kd = 5)) (ha : ar n.kd ≠ 0) : ∃ A, shQ q f n.lf.toNat 0 = some A ∧ (n.kd = 7 → S = [33] ++ parS q n.lf 2 A) ∧ (n.kd ≠ 7 → ar n.kd = 1 → S = wordN n.kd ++ [40] ++ A ++ [41]) ∧
    (ar n.kd = 2 → ∃ B, shQ q f n.rt.toNat 0 = some B ∧ S = parS q n.lf (lvN n.kd) A ++ signN n.kd ++ parS q n.rt (lvN n.kd + 1) B) := by
  unfold shB at h
  rw [if_neg h3, if_neg h45] at h
  split at h
  · rename_i h7
    obtain ⟨A, hA, rfl⟩ := Option.map_eq_some_iff.1 h
    obtain ⟨A0, hA0, rfl⟩ := shQ_zero hA
    refine ⟨A0, hA0, fun _ => rfl, fun h => absurd h7 h, fun h => ?_⟩
    rw [h7] at h; exact absurd h (by decide)
  · rename_i h7
    split at h
    · rename_i h1
      obtain ⟨A, hA, rfl⟩ := Option.map_eq_some_iff.1 h
      exact ⟨A, hA, fun h => absurd h h7, fun _ _ => rfl, fun h => by omega⟩
    · obtain ⟨A, hA, h⟩ := Option.bind_eq_some_iff.1 h
      obtain ⟨B, hB, rfl⟩ := Option.map_eq_some_iff.1 h
      obtain ⟨A0, hA0, rfl⟩ := shQ_zero hA
      obtain ⟨B0, hB0, rfl⟩ := shQ_zero hB
      exact ⟨A0, hA0, fun h => absurd h h7, fun _ h => by omega, fun _ => ⟨B0, hB0, rfl⟩⟩
def rtG (fu : Nat) : List AV → Option (Prop × AV)
  | [.agg [.d (.sl xs)], .d (.int .i64 i)] => some (xs = rows eN (dN xs) ∧ okN (dN xs) ∧ 0 ≤ i ∧ (shQ (dN xs) fu i.toNat 0).isSome = true, .tup [.d (.str ((shQ (dN xs) fu i.toNat 0).getD [])), .d (.int .i64 (bndN ((dN xs).getD i.toNat default).kd : Nat))])
  | _ => none
def E_rt (n : Nat) (kr : Meets Tryd.prog 32 (Spec.pure (rtG n))) : Env Tryd.prog := E_rvw.add 32 (Spec.pure (rtG n)) kr (by kernel_rfl)

theorem rvt_step (fu : Nat) (kr : Meets Tryd.prog 32 (Spec.pure (rtG fu))) : Meets Tryd.prog 32 (Spec.pure (rtG (fu + 1))) := by
 refine meets_fun ((E_rt fu kr).at_ 108) Tryd.func32 rfl rfl rfl ?_
 intro args p r hg hp
 unfold rtG at hg
 split at hg
 ·rename_i xs i
  simp only [Option.some.injEq, Prod.mk.injEq] at hg
  obtain ⟨rfl, rfl⟩ := hg
  obtain ⟨he, hok, hi0, hsm⟩ := hp
  generalize dN xs = q at *
  subst he
  obtain ⟨i, rfl⟩ := Int.eq_ofNat_of_zero_le hi0
  simp only [Int.toNat_natCast] at hsm ⊢
  obtain ⟨r, hr⟩ := Option.isSome_iff_exists.1 hsm
  rw [hr, getD_bs]
  obtain ⟨n, S, hn, hS, hSl, hrS⟩ := shQ_step hr
  rw [if_neg (by omega)] at hrS
  subst hrS
  rw [getD_nd hn]
  have hil : i < q.length := (List.getElem?_eq_some_iff.1 hn).1
  have hq40 := hok.1
  have hon := hok.2 n (mem_at hn)
  have hwl := word_len n.kd
  have hgl := sign_len n.kd
  have hit := dec_len 5 n.nm.toNat (by omega)
  have hit2 : Lib.itoa n.nm = Lib.decDigits n.nm.toNat := by unfold Lib.itoa; rw [if_neg (by omega)]
  have hpt := sh_parts hS
  obtain ⟨a, b, c, d⟩ := n
  dsimp only at hon hwl hgl hit hit2 hpt ⊢
  obtain ⟨o1, o2, o3, o4, o5, o6⟩ := hon
  generalize hkl : (q.getD c.toNat default).kd = kl at *
  generalize hkr : (q.getD d.toNat default).kd = kr2 at *
  have hb1 := bnd_lv kl
  have hb2 := bnd_lv kr2
  have hb3 := bnd_le kl
  have hb4 := bnd_le kr2
  have hT : ((E_rt fu kr)).X = T := rfl
  have hx0 := And.intro @dec_t (And.intro @dec_f (And.intro @rect_eN (And.intro @dN_rows (And.intro @Int.toNat_natCast (And.intro @getD_bs @Tryd.results32)))))
  have hx := hx0
  refine ⟨by rfl, ?_⟩
  intro F W0 hnp hmk
  refine vc_seq_k fun N1 h1 => ?_
  refine u_reg ?_
  try refine lg_mk ?_
  refine u_bx ?_
  refine u_mv ?_
  refine u_mv ?_
  refine lg_nil ?_
  refine h1 _ ?_; clear h1; try clear N1
  refine vc_seq_k fun N2 h2 => ?_
  have hx := And.intro @hn (And.intro @eN.eq_1 hx0)
  refine u_reg ?_
  try refine lg_mk ?_
  refine u_pt ?_
  refine u_ld ?_
  refine u_mv ?_
  refine u_pt ?_
  refine u_ld ?_
  refine u_al ?_
  refine u_st ?_
  refine lg_nil ?_
  have hx := hx0
  refine h2 _ ?_; clear h2; try clear N2
  refine vc_seq_k fun N3 h3 => ?_
  refine vc_seq_k fun N4 h4 => ?_
  refine u_reg ?_
  try refine lg_mk ?_
  refine u_pt ?_
  refine u_ld ?_
  refine u_bn ?_
  refine lg_nil ?_
  refine h4 _ ?_; clear h4; try clear N4
  refine u_cond (fun hb5 => ?_) (fun hb5 => ?_)
  ·have hk := hb5
   have hS2 := hS
   unfold shB at hS2
   dsimp only at hS2
   rw [if_pos (by (try simp at hk); omega)] at hS2
   obtain rfl := Option.some.inj hS2
   rw [hit2]
   obtain rfl : a = 3 := by (try simp at hk); omega
   refine vc_seq_k fun N6 h6 => ?_
   refine u_reg ?_
   try refine lg_mk ?_
   refine u_pt ?_
   refine u_ld ?_
   have hc := call_rule (E := ((E_rt fu kr).at_ 108)) (f := 65) (sp := Spec.pure (decG 7)) rfl
   have hs := @decG.eq_1
   refine u_cp (hq := by (first | ((refine ⟨by decide, by omega, by omega, by omega⟩)) | exact sd_)) ?_
   refine u_bn (hq := by (first | ((simp only [List.length_append, List.length_cons, List.length_nil]; omega)) | exact sd_)) ?_
   refine u_mv ?_
   refine u_mv ?_
   refine lg_nil ?_
   refine h6 _ ?_; clear h6; try clear N6
   refine vc_ret ?_
   try simp only [k_rules]
   have hbn : bndN 3 = 3 := rfl
   rw [hbn]
   refine fin2_ ?_
   exact cl_
  ·have h20 := hb5
   refine vc_skip ?_
   try simp only [k_rules]
   refine h3 _ ?_; clear h3; try clear N3
   refine vc_seq_k fun N7 h7 => ?_
   refine vc_seq_k fun N8 h8 => ?_
   refine u_reg ?_
   try refine lg_mk ?_
   refine u_pt ?_
   refine u_ld ?_
   refine u_bn ?_
   refine u_mv ?_
   refine g_pt ?_
   refine g_ld ?_
   refine g_bn ?_
   refine u_pk ?_
   refine lg_nil ?_
   refine h8 _ ?_; clear h8; try clear N8
   refine u_cond (fun hb9 => ?_) (fun hb9 => ?_)
   ·have hk := hb9
    have hS2 := hS
    unfold shB at hS2
    dsimp only at hS2
    rw [if_neg (by (try simp at h20); omega)] at hS2
    rw [if_pos (by (try simp at hk); omega)] at hS2
    obtain rfl := Option.some.inj hS2
    rw [hit2]
    refine vc_seq_k fun N10 h10 => ?_
    refine vc_regO [65, 60] [0, 1, 4, 5, 2, 3, 6, 7, 8, 9, 10] hmix (by kernel_rfl) ?_
    simp only [pick_rules, list_rules]
    try refine lg_mk ?_
    refine u_pt (hq := by (first | (first | omega | (simp only [List.length_append, List.length_cons, List.length_nil]; omega)) | exact sd_)) ?_
    refine u_ld (hq := by (first | (first | omega | (simp only [List.length_append, List.length_cons, List.length_nil]; omega)) | exact sd_)) ?_
    refine u_pt (hq := by (first | (first | omega | (simp only [List.length_append, List.length_cons, List.length_nil]; omega)) | exact sd_)) ?_
    refine u_ld (hq := by (first | (first | omega | (simp only [List.length_append, List.length_cons, List.length_nil]; omega)) | exact sd_)) ?_
    have hc := call_rule (E := ((E_rt fu kr).at_ 108)) (f := 60) (sp := Spec.pure rwG) rfl
    have hs := @rwG.eq_1
    refine u_cp (hq := by (first | (first | omega | (simp only [List.length_append, List.length_cons, List.length_nil]; omega)) | exact sd_)) ?_
    refine u_bn (hq := by (first | (first | omega | (simp only [List.length_append, List.length_cons, List.length_nil]; omega)) | exact sd_)) ?_
    have hc := call_rule (E := ((E_rt fu kr).at_ 108)) (f := 65) (sp := Spec.pure (decG 7)) rfl
    have hs := @decG.eq_1
    refine u_cp (hq := by (first | ((refine ⟨by decide, by omega, by omega, by omega⟩)) | exact sd_)) ?_
    refine u_bn (hq := by (first | (first | omega | (simp only [List.length_append, List.length_cons, List.length_nil]; omega)) | exact sd_)) ?_
    refine u_bn (hq := by (first | (first | omega | (simp only [List.length_append, List.length_cons, List.length_nil]; omega)) | exact sd_)) ?_
    refine u_mv (hq := by (first | (first | omega | (simp only [List.length_append, List.length_cons, List.length_nil]; omega)) | exact sd_)) ?_
    refine u_mv (hq := by (first | (first | omega | (simp only [List.length_append, List.length_cons, List.length_nil]; omega)) | exact sd_)) ?_
    refine lg_nil ?_
    refine h10 _ ?_; clear h10; try clear N10
    refine vc_ret ?_
    try simp only [k_rules]
    have hk9 := hb9
    have hbn : bndN a = 3 := by unfold bndN; rw [if_neg (by (try simp at hk9); omega), if_neg (by (try simp at hk9); omega), if_neg (by (try simp at hk9); omega)]
    rw [hbn]
    refine fin2_ ?_
    exact cl_
   ·have h32 := hb9
    refine vc_skip ?_
    try simp only [k_rules]
    refine h7 _ ?_; clear h7; try clear N7
    refine vc_seq_k fun N11 h11 => ?_
    refine vc_seq_k fun N12 h12 => ?_
    refine u_reg ?_
    try refine lg_mk ?_
    refine u_pt ?_
    refine u_ld ?_
    have hc := call_rule (E := ((E_rt fu kr).at_ 108)) (f := 40) (sp := Spec.pure arG) rfl
    have hs := @arG.eq_1
    refine u_cp ?_
    refine u_bn ?_
    refine lg_nil ?_
    refine h12 _ ?_; clear h12; try clear N12
    refine u_cond (fun hb13 => ?_) (fun hb13 => ?_)
    ·have hk := hb13
     have hS2 := hS
     unfold shB at hS2
     dsimp only at hS2
     rw [if_neg (by (try simp at h20); omega)] at hS2
     rw [if_neg (by (try simp at h32); omega)] at hS2
     rw [if_neg (by intro h; subst h; simp [ar] at hk), if_neg (by (try simp at hk); omega), if_pos (by (try simp at hk); omega)] at hS2
     obtain rfl := Option.some.inj hS2
     refine vc_seq_k fun N14 h14 => ?_
     refine u_reg ?_
     try refine lg_mk ?_
     refine u_pt (hq := by (first | (omega) | exact sd_)) ?_
     refine u_ld (hq := by (first | (omega) | exact sd_)) ?_
     have hc := call_rule (E := ((E_rt fu kr).at_ 108)) (f := 60) (sp := Spec.pure rwG) rfl
     have hs := @rwG.eq_1
     refine u_cp (hq := by (first | (omega) | exact sd_)) ?_
     refine u_mv (hq := by (first | (omega) | exact sd_)) ?_
     refine u_mv (hq := by (first | (omega) | exact sd_)) ?_
     refine lg_nil ?_
     refine h14 _ ?_; clear h14; try clear N14
     refine vc_ret ?_
     try simp only [k_rules]
     have hk9 := hb13
     have hbn : bndN a = 3 := by
      rcases ar_or a with ⟨h, _⟩ | ⟨_, _, h⟩ | ⟨_, h⟩
      ·unfold bndN; rw [if_neg (by omega), if_neg (by omega), if_neg (by omega)]
      ·(try simp at hk9); omega
      ·(try simp at hk9); omega
     rw [hbn]
     refine fin2_ ?_
     exact cl_
    ·have h45 := hb13
     obtain ⟨A, hA, hp7, hp1, hp2⟩ := hpt (by (try simp at h20); omega) (by (try simp at h32); omega) (by (try simp at h45); omega)
     have hAl := shQ_len hA
     refine vc_skip ?_
     try simp only [k_rules]
     refine h11 _ ?_; clear h11; try clear N11
     refine vc_seq_k fun N15 h15 => ?_
     have hx := And.intro @hA (And.intro @hkl hx0)
     refine u_reg ?_
     try refine lg_mk ?_
     refine u_ld ?_
     refine u_pt ?_
     refine u_ld ?_
     have hc := call_rule (E := ((E_rt fu kr).at_ 108)) (f := 32) (sp := Spec.pure (rtG fu)) rfl
     have hs := @rtG.eq_1
     refine u_cp (hq := by (first | ((repeat' apply And.intro) <;> first | rfl | omega | exact hok.2 | (rw [hA]; rfl) | (rw [hB]; rfl) | (simp [hA]; done)) | exact sd_)) ?_
     refine u_mv ?_
     refine u_ex ?_
     refine u_ex ?_
     refine u_mv ?_
     refine u_mv ?_
     refine lg_nil ?_
     have hx := hx0
     refine h15 _ ?_; clear h15; try clear N15
     refine vc_seq_k fun N16 h16 => ?_
     refine vc_seq_k fun N17 h17 => ?_
     refine u_reg ?_
     try refine lg_mk ?_
     refine u_pt ?_
     refine u_ld ?_
     refine u_bn ?_
     refine lg_nil ?_
     refine h17 _ ?_; clear h17; try clear N17
     refine u_cond (fun hb18 => ?_) (fun hb18 => ?_)
     ·obtain rfl : a = 7 := by have := hb18; (try simp at this); omega
      have hS3 := hp7 rfl
      unfold parS at hS3
      rw [hkl] at hS3
      refine vc_seq_k fun N19 h19 => ?_
      refine vc_seq_k fun N20 h20 => ?_
      refine u_reg ?_
      try refine lg_mk ?_
      refine u_mv ?_
      refine u_bn ?_
      refine lg_nil ?_
      refine h20 _ ?_; clear h20; try clear N20
      refine u_cond (fun hb21 => ?_) (fun hb21 => ?_)
      ·rw [if_pos (by have := hb21; (try simp at this); omega)] at hS3
       subst hS3
       refine u_reg ?_
       try refine lg_mk ?_
       refine u_mv (hq := by (first | ((simp only [List.length_append, List.length_cons, List.length_nil]; omega)) | exact sd_)) ?_
       refine u_bn (hq := by (first | ((simp only [List.length_append, List.length_cons, List.length_nil]; omega)) | exact sd_)) ?_
       refine u_bn (hq := by (first | ((simp only [List.length_append, List.length_cons, List.length_nil]; omega)) | exact sd_)) ?_
       refine u_mv (hq := by (first | ((simp only [List.length_append, List.length_cons, List.length_nil]; omega)) | exact sd_)) ?_
       refine lg_nil ?_
       refine h19 _ ?_; clear h19; try clear N19
       refine vc_seq_k fun N22 h22 => ?_
       refine u_reg ?_
       try refine lg_mk ?_
       refine u_mv (hq := by (first | ((simp only [List.length_append, List.length_cons, List.length_nil]; omega)) | exact sd_)) ?_
       refine u_bn (hq := by (first | ((simp only [List.length_append, List.length_cons, List.length_nil]; omega)) | exact sd_)) ?_
       refine u_mv (hq := by (first | ((simp only [List.length_append, List.length_cons, List.length_nil]; omega)) | exact sd_)) ?_
       refine u_mv (hq := by (first | ((simp only [List.length_append, List.length_cons, List.length_nil]; omega)) | exact sd_)) ?_
       refine lg_nil ?_
       refine h22 _ ?_; clear h22; try clear N22
       refine vc_ret ?_
       try simp only [k_rules]
       have hbn : bndN 7 = 2 := rfl
       rw [hbn]
       refine fin2_ ?_
       exact cl_
      ·rw [if_neg (by have := hb21; (try simp at this); omega)] at hS3
       subst hS3
       refine vc_skip ?_
       try simp only [k_rules]
       refine h19 _ ?_; clear h19; try clear N19
       refine vc_seq_k fun N23 h23 => ?_
       refine u_reg ?_
       try refine lg_mk ?_
       refine u_mv (hq := by (first | ((simp only [List.length_append, List.length_cons, List.length_nil]; omega)) | exact sd_)) ?_
       refine u_bn (hq := by (first | ((simp only [List.length_append, List.length_cons, List.length_nil]; omega)) | exact sd_)) ?_
       refine u_mv (hq := by (first | ((simp only [List.length_append, List.length_cons, List.length_nil]; omega)) | exact sd_)) ?_
       refine u_mv (hq := by (first | ((simp only [List.length_append, List.length_cons, List.length_nil]; omega)) | exact sd_)) ?_
       refine lg_nil ?_
       refine h23 _ ?_; clear h23; try clear N23
       refine vc_ret ?_
       try simp only [k_rules]
       have hbn : bndN 7 = 2 := rfl
       rw [hbn]
       refine fin2_ ?_
       exact cl_
     ·have h58 := hb18
      refine vc_skip ?_
      try simp only [k_rules]
      refine h16 _ ?_; clear h16; try clear N16
      refine vc_seq_k fun N24 h24 => ?_
      refine vc_seq_k fun N25 h25 => ?_
      refine u_reg ?_
      try refine lg_mk ?_
      refine u_pt ?_
      refine u_ld ?_
      have hc := call_rule (E := ((E_rt fu kr).at_ 108)) (f := 40) (sp := Spec.pure arG) rfl
      have hs := @arG.eq_1
      refine u_cp ?_
      refine u_bn ?_
      refine lg_nil ?_
      refine h25 _ ?_; clear h25; try clear N25
      refine u_cond (fun hb26 => ?_) (fun hb26 => ?_)
      ·have hS3 := hp1 (by (try simp at h58); omega) (by have := hb26; (try simp at this); omega)
       subst hS3
       refine vc_seq_k fun N27 h27 => ?_
       refine u_reg ?_
       try refine lg_mk ?_
       refine u_pt (hq := by (first | (first | omega | (simp only [List.length_append, List.length_cons, List.length_nil]; omega)) | exact sd_)) ?_
       refine u_ld (hq := by (first | (first | omega | (simp only [List.length_append, List.length_cons, List.length_nil]; omega)) | exact sd_)) ?_
       have hc := call_rule (E := ((E_rt fu kr).at_ 108)) (f := 60) (sp := Spec.pure rwG) rfl
       have hs := @rwG.eq_1
       refine u_cp (hq := by (first | (first | omega | (simp only [List.length_append, List.length_cons, List.length_nil]; omega)) | exact sd_)) ?_
       refine u_bn (hq := by (first | (first | omega | (simp only [List.length_append, List.length_cons, List.length_nil]; omega)) | exact sd_)) ?_
       refine u_mv (hq := by (first | (first | omega | (simp only [List.length_append, List.length_cons, List.length_nil]; omega)) | exact sd_)) ?_
       refine u_bn (hq := by (first | (first | omega | (simp only [List.length_append, List.length_cons, List.length_nil]; omega)) | exact sd_)) ?_
       refine u_bn (hq := by (first | (first | omega | (simp only [List.length_append, List.length_cons, List.length_nil]; omega)) | exact sd_)) ?_
       refine u_mv (hq := by (first | (first | omega | (simp only [List.length_append, List.length_cons, List.length_nil]; omega)) | exact sd_)) ?_
       refine u_mv (hq := by (first | (first | omega | (simp only [List.length_append, List.length_cons, List.length_nil]; omega)) | exact sd_)) ?_
       refine lg_nil ?_
       refine h27 _ ?_; clear h27; try clear N27
       refine vc_ret ?_
       try simp only [k_rules]
       have hk9 := hb26
       have hbn : bndN a = 3 := by
        rcases ar_or a with ⟨_, h⟩ | ⟨h1, h2, h⟩ | ⟨_, h⟩
        ·(try simp at hk9); omega
        ·unfold bndN; rw [if_neg (by omega), if_neg (by omega), if_neg (by (try simp at h58); omega)]
        ·(try simp at hk9); omega
       rw [hbn]
       refine fin2_ ?_
       exact cl_
      ·have ha2 : ar a = 2 := by have h69 := hb26; (try simp at h69); (try simp at h45); rcases ar_or a with ⟨_, h⟩ | ⟨_, _, h⟩ | ⟨_, h⟩ <;> omega
       obtain ⟨B, hB, hS3⟩ := hp2 ha2
       have hBl := shQ_len hB
       unfold parS at hS3
       rw [hkl, hkr] at hS3
       have ha14 : 14 ≤ a := by rcases ar_or a with ⟨_, h⟩ | ⟨_, _, h⟩ | ⟨h, _⟩ <;> omega
       refine vc_skip ?_
       try simp only [k_rules]
       refine h24 _ ?_; clear h24; try clear N24
       refine vc_seq_k fun N28 h28 => ?_
       have hx := And.intro @hB (And.intro @hkr hx0)
       refine u_reg ?_
       try refine lg_mk ?_
       refine u_ld ?_
       refine u_pt ?_
       refine u_ld ?_
       have hc := call_rule (E := ((E_rt fu kr).at_ 108)) (f := 32) (sp := Spec.pure (rtG fu)) rfl
       have hs := @rtG.eq_1
       refine u_cp (hq := by (first | ((repeat' apply And.intro) <;> first | rfl | omega | exact hok.2 | (rw [hA]; rfl) | (rw [hB]; rfl) | (simp [hA]; done)) | exact sd_)) ?_
       refine u_mv ?_
       refine u_ex ?_
       refine u_ex ?_
       refine u_mv ?_
       refine u_mv ?_
       refine lg_nil ?_
       have hx := hx0
       refine h28 _ ?_; clear h28; try clear N28
       refine vc_seq_k fun N29 h29 => ?_
       refine u_reg ?_
       try refine lg_mk ?_
       refine u_mv ?_
       refine lg_nil ?_
       refine h29 _ ?_; clear h29; try clear N29
       refine vc_seq_k fun N30 h30 => ?_
       refine u_reg ?_
       try refine lg_mk ?_
       refine u_mv ?_
       refine lg_nil ?_
       refine h30 _ ?_; clear h30; try clear N30
       refine vc_seq_k fun N31 h31 => ?_
       refine vc_seq_k fun N32 h32 => ?_
       refine u_reg ?_
       try refine lg_mk ?_
       refine u_pt ?_
       refine u_ld ?_
       refine u_bn ?_
       refine lg_nil ?_
       refine h32 _ ?_; clear h32; try clear N32
       refine u_cond (fun hb33 => ?_) (fun hb33 => ?_)
       ·obtain rfl : a = 16 := by have := hb33; (try simp at this); omega
        refine u_reg ?_
        try refine lg_mk ?_
        refine u_mv ?_
        refine lg_nil ?_
        refine h31 _ ?_; clear h31; try clear N31
        refine vc_seq_k fun N34 h34 => ?_
        refine vc_seq_k fun N35 h35 => ?_
        refine u_reg ?_
        try refine lg_mk ?_
        refine u_pt ?_
        refine u_ld ?_
        refine u_bn ?_
        refine lg_nil ?_
        refine h35 _ ?_; clear h35; try clear N35
        refine u_cond (fun hb36 => ?_) (fun hb36 => ?_)
        ·first | omega | exact absurd trivial hb36 | contradiction | (simp_all; done)
        ·have hlv : lvN 16 = 1 := rfl
         have hsg : signN 16 = [32, 45, 32] := rfl
         have hbn : bndN 16 = 1 := rfl
         rw [hlv, hsg] at hS3
         refine vc_skip ?_
         try simp only [k_rules]
         refine h34 _ ?_; clear h34; try clear N34
         refine vc_seq_k fun N37 h37 => ?_
         refine vc_seq_k fun N38 h38 => ?_
         refine u_reg ?_
         try refine lg_mk ?_
         refine u_mv ?_
         refine u_mv ?_
         refine u_bn ?_
         refine lg_nil ?_
         refine h38 _ ?_; clear h38; try clear N38
         refine u_cond (fun hb39 => ?_) (fun hb39 => ?_)
         ·rw [if_pos (by have := hb39; (try simp at this); omega)] at hS3
          refine u_reg ?_
          try refine lg_mk ?_
          refine u_mv (hq := by (first | ((simp only [List.length_append, List.length_cons, List.length_nil]; omega)) | exact sd_)) ?_
          refine u_bn (hq := by (first | ((simp only [List.length_append, List.length_cons, List.length_nil]; omega)) | exact sd_)) ?_
          refine u_bn (hq := by (first | ((simp only [List.length_append, List.length_cons, List.length_nil]; omega)) | exact sd_)) ?_
          refine u_mv (hq := by (first | ((simp only [List.length_append, List.length_cons, List.length_nil]; omega)) | exact sd_)) ?_
          refine lg_nil ?_
          refine h37 _ ?_; clear h37; try clear N37
          refine vc_seq_k fun N40 h40 => ?_
          refine vc_seq_k fun N41 h41 => ?_
          refine u_reg ?_
          try refine lg_mk ?_
          refine u_mv ?_
          refine u_mv ?_
          refine u_bn ?_
          refine lg_nil ?_
          refine h41 _ ?_; clear h41; try clear N41
          refine u_cond (fun hb42 => ?_) (fun hb42 => ?_)
          ·rw [if_pos (by have := hb42; (try simp at this); omega)] at hS3
           subst hS3
           refine u_reg ?_
           try refine lg_mk ?_
           refine u_mv (hq := by (first | ((simp only [List.length_append, List.length_cons, List.length_nil]; omega)) | exact sd_)) ?_
           refine u_bn (hq := by (first | ((simp only [List.length_append, List.length_cons, List.length_nil]; omega)) | exact sd_)) ?_
           refine u_bn (hq := by (first | ((simp only [List.length_append, List.length_cons, List.length_nil]; omega)) | exact sd_)) ?_
           refine u_mv (hq := by (first | ((simp only [List.length_append, List.length_cons, List.length_nil]; omega)) | exact sd_)) ?_
           refine lg_nil ?_
           refine h40 _ ?_; clear h40; try clear N40
           refine vc_seq_k fun N43 h43 => ?_
           refine u_reg ?_
           try refine lg_mk ?_
           refine u_mv (hq := by (first | ((simp only [List.length_append, List.length_cons, List.length_nil]; omega)) | exact sd_)) ?_
           refine u_mv (hq := by (first | ((simp only [List.length_append, List.length_cons, List.length_nil]; omega)) | exact sd_)) ?_
           refine u_bn (hq := by (first | ((simp only [List.length_append, List.length_cons, List.length_nil]; omega)) | exact sd_)) ?_
           refine u_mv (hq := by (first | ((simp only [List.length_append, List.length_cons, List.length_nil]; omega)) | exact sd_)) ?_
           refine u_bn (hq := by (first | ((simp only [List.length_append, List.length_cons, List.length_nil]; omega)) | exact sd_)) ?_
           refine u_mv (hq := by (first | ((simp only [List.length_append, List.length_cons, List.length_nil]; omega)) | exact sd_)) ?_
           refine u_mv (hq := by (first | ((simp only [List.length_append, List.length_cons, List.length_nil]; omega)) | exact sd_)) ?_
           refine u_mv (hq := by (first | ((simp only [List.length_append, List.length_cons, List.length_nil]; omega)) | exact sd_)) ?_
           refine lg_nil ?_
           refine h43 _ ?_; clear h43; try clear N43
           refine vc_ret ?_
           try simp only [k_rules]
           rw [hbn]
           refine fin2_ ?_
           exact cl_
          ·rw [if_neg (by have := hb42; (try simp at this); omega)] at hS3
           subst hS3
           refine vc_skip ?_
           try simp only [k_rules]
           refine h40 _ ?_; clear h40; try clear N40
           refine vc_seq_k fun N44 h44 => ?_
           refine u_reg ?_
           try refine lg_mk ?_
           refine u_mv (hq := by (first | ((simp only [List.length_append, List.length_cons, List.length_nil]; omega)) | exact sd_)) ?_
           refine u_mv (hq := by (first | ((simp only [List.length_append, List.length_cons, List.length_nil]; omega)) | exact sd_)) ?_
           refine u_bn (hq := by (first | ((simp only [List.length_append, List.length_cons, List.length_nil]; omega)) | exact sd_)) ?_
           refine u_mv (hq := by (first | ((simp only [List.length_append, List.length_cons, List.length_nil]; omega)) | exact sd_)) ?_
           refine u_bn (hq := by (first | ((simp only [List.length_append, List.length_cons, List.length_nil]; omega)) | exact sd_)) ?_
           refine u_mv (hq := by (first | ((simp only [List.length_append, List.length_cons, List.length_nil]; omega)) | exact sd_)) ?_
           refine u_mv (hq := by (first | ((simp only [List.length_append, List.length_cons, List.length_nil]; omega)) | exact sd_)) ?_
           refine u_mv (hq := by (first | ((simp only [List.length_append, List.length_cons, List.length_nil]; omega)) | exact sd_)) ?_
           refine lg_nil ?_
           refine h44 _ ?_; clear h44; try clear N44
           refine vc_ret ?_
           try simp only [k_rules]
           rw [hbn]
           refine fin2_ ?_
           exact cl_
         ·rw [if_neg (by have := hb39; (try simp at this); omega)] at hS3
          refine vc_skip ?_
          try simp only [k_rules]
          refine h37 _ ?_; clear h37; try clear N37
          refine vc_seq_k fun N45 h45 => ?_
          refine vc_seq_k fun N46 h46 => ?_
          refine u_reg ?_
          try refine lg_mk ?_
          refine u_mv ?_
          refine u_mv ?_
          refine u_bn ?_
          refine lg_nil ?_
          refine h46 _ ?_; clear h46; try clear N46
          refine u_cond (fun hb47 => ?_) (fun hb47 => ?_)
          ·rw [if_pos (by have := hb47; (try simp at this); omega)] at hS3
           subst hS3
           refine u_reg ?_
           try refine lg_mk ?_
           refine u_mv (hq := by (first | ((simp only [List.length_append, List.length_cons, List.length_nil]; omega)) | exact sd_)) ?_
           refine u_bn (hq := by (first | ((simp only [List.length_append, List.length_cons, List.length_nil]; omega)) | exact sd_)) ?_
           refine u_bn (hq := by (first | ((simp only [List.length_append, List.length_cons, List.length_nil]; omega)) | exact sd_)) ?_
           refine u_mv (hq := by (first | ((simp only [List.length_append, List.length_cons, List.length_nil]; omega)) | exact sd_)) ?_
           refine lg_nil ?_
           refine h45 _ ?_; clear h45; try clear N45
           refine vc_seq_k fun N48 h48 => ?_
           refine u_reg ?_
           try refine lg_mk ?_
           refine u_mv (hq := by (first | ((simp only [List.length_append, List.length_cons, List.length_nil]; omega)) | exact sd_)) ?_
           refine u_mv (hq := by (first | ((simp only [List.length_append, List.length_cons, List.length_nil]; omega)) | exact sd_)) ?_
           refine u_bn (hq := by (first | ((simp only [List.length_append, List.length_cons, List.length_nil]; omega)) | exact sd_)) ?_
           refine u_mv (hq := by (first | ((simp only [List.length_append, List.length_cons, List.length_nil]; omega)) | exact sd_)) ?_
           refine u_bn (hq := by (first | ((simp only [List.length_append, List.length_cons, List.length_nil]; omega)) | exact sd_)) ?_
           refine u_mv (hq := by (first | ((simp only [List.length_append, List.length_cons, List.length_nil]; omega)) | exact sd_)) ?_
           refine u_mv (hq := by (first | ((simp only [List.length_append, List.length_cons, List.length_nil]; omega)) | exact sd_)) ?_
           refine u_mv (hq := by (first | ((simp only [List.length_append, List.length_cons, List.length_nil]; omega)) | exact sd_)) ?_
           refine lg_nil ?_
           refine h48 _ ?_; clear h48; try clear N48
           refine vc_ret ?_
           try simp only [k_rules]
           rw [hbn]
           refine fin2_ ?_
           exact cl_
          ·rw [if_neg (by have := hb47; (try simp at this); omega)] at hS3
           subst hS3
           refine vc_skip ?_
           try simp only [k_rules]
           refine h45 _ ?_; clear h45; try clear N45
           refine vc_seq_k fun N49 h49 => ?_
           refine u_reg ?_
           try refine lg_mk ?_
           refine u_mv (hq := by (first | ((simp only [List.length_append, List.length_cons, List.length_nil]; omega)) | exact sd_)) ?_
           refine u_mv (hq := by (first | ((simp only [List.length_append, List.length_cons, List.length_nil]; omega)) | exact sd_)) ?_
           refine u_bn (hq := by (first | ((simp only [List.length_append, List.length_cons, List.length_nil]; omega)) | exact sd_)) ?_
           refine u_mv (hq := by (first | ((simp only [List.length_append, List.length_cons, List.length_nil]; omega)) | exact sd_)) ?_
           refine u_bn (hq := by (first | ((simp only [List.length_append, List.length_cons, List.length_nil]; omega)) | exact sd_)) ?_
           refine u_mv (hq := by (first | ((simp only [List.length_append, List.length_cons, List.length_nil]; omega)) | exact sd_)) ?_
           refine u_mv (hq := by (first | ((simp only [List.length_append, List.length_cons, List.length_nil]; omega)) | exact sd_)) ?_
           refine u_mv (hq := by (first | ((simp only [List.length_append, List.length_cons, List.length_nil]; omega)) | exact sd_)) ?_
           refine lg_nil ?_
           refine h49 _ ?_; clear h49; try clear N49
           refine vc_ret ?_
           try simp only [k_rules]
           rw [hbn]
           refine fin2_ ?_
           exact cl_
       ·have h86 := hb33
        refine vc_skip ?_
        try simp only [k_rules]
        refine h31 _ ?_; clear h31; try clear N31
        refine vc_seq_k fun N50 h50 => ?_
        refine vc_seq_k fun N51 h51 => ?_
        refine u_reg ?_
        try refine lg_mk ?_
        refine u_pt ?_
        refine u_ld ?_
        refine u_bn ?_
        refine lg_nil ?_
        refine h51 _ ?_; clear h51; try clear N51
        refine u_cond (fun hb52 => ?_) (fun hb52 => ?_)
        ·obtain rfl : a = 14 := by have := hb52; (try simp at this); omega
         have hlv : lvN 14 = 0 := rfl
         have hsg : signN 14 = [32, 124, 32] := rfl
         have hbn : bndN 14 = 0 := rfl
         rw [hlv, hsg] at hS3
         refine vc_seq_k fun N53 h53 => ?_
         refine u_reg ?_
         try refine lg_mk ?_
         refine u_mv ?_
         refine lg_nil ?_
         refine h53 _ ?_; clear h53; try clear N53
         refine u_reg ?_
         try refine lg_mk ?_
         refine u_mv ?_
         refine lg_nil ?_
         refine h50 _ ?_; clear h50; try clear N50
         refine vc_seq_k fun N54 h54 => ?_
         refine vc_seq_k fun N55 h55 => ?_
         refine u_reg ?_
         try refine lg_mk ?_
         refine u_mv ?_
         refine u_mv ?_
         refine u_bn ?_
         refine lg_nil ?_
         refine h55 _ ?_; clear h55; try clear N55
         refine u_cond (fun hb56 => ?_) (fun hb56 => ?_)
         ·rw [if_pos (by have := hb56; (try simp at this); omega)] at hS3
          refine u_reg ?_
          try refine lg_mk ?_
          refine u_mv (hq := by (first | ((simp only [List.length_append, List.length_cons, List.length_nil]; omega)) | exact sd_)) ?_
          refine u_bn (hq := by (first | ((simp only [List.length_append, List.length_cons, List.length_nil]; omega)) | exact sd_)) ?_
          refine u_bn (hq := by (first | ((simp only [List.length_append, List.length_cons, List.length_nil]; omega)) | exact sd_)) ?_
          refine u_mv (hq := by (first | ((simp only [List.length_append, List.length_cons, List.length_nil]; omega)) | exact sd_)) ?_
          refine lg_nil ?_
          refine h54 _ ?_; clear h54; try clear N54
          refine vc_seq_k fun N57 h57 => ?_
          refine vc_seq_k fun N58 h58 => ?_
          refine u_reg ?_
          try refine lg_mk ?_
          refine u_mv ?_
          refine u_mv ?_
          refine u_bn ?_
          refine lg_nil ?_
          refine h58 _ ?_; clear h58; try clear N58
          refine u_cond (fun hb59 => ?_) (fun hb59 => ?_)
          ·rw [if_pos (by have := hb59; (try simp at this); omega)] at hS3
           subst hS3
           refine u_reg ?_
           try refine lg_mk ?_
           refine u_mv (hq := by (first | ((simp only [List.length_append, List.length_cons, List.length_nil]; omega)) | exact sd_)) ?_
           refine u_bn (hq := by (first | ((simp only [List.length_append, List.length_cons, List.length_nil]; omega)) | exact sd_)) ?_
           refine u_bn (hq := by (first | ((simp only [List.length_append, List.length_cons, List.length_nil]; omega)) | exact sd_)) ?_
           refine u_mv (hq := by (first | ((simp only [List.length_append, List.length_cons, List.length_nil]; omega)) | exact sd_)) ?_
           refine lg_nil ?_
           refine h57 _ ?_; clear h57; try clear N57
           refine vc_seq_k fun N60 h60 => ?_
           refine u_reg ?_
           try refine lg_mk ?_
           refine u_mv (hq := by (first | ((simp only [List.length_append, List.length_cons, List.length_nil]; omega)) | exact sd_)) ?_
           refine u_mv (hq := by (first | ((simp only [List.length_append, List.length_cons, List.length_nil]; omega)) | exact sd_)) ?_
           refine u_bn (hq := by (first | ((simp only [List.length_append, List.length_cons, List.length_nil]; omega)) | exact sd_)) ?_
           refine u_mv (hq := by (first | ((simp only [List.length_append, List.length_cons, List.length_nil]; omega)) | exact sd_)) ?_
           refine u_bn (hq := by (first | ((simp only [List.length_append, List.length_cons, List.length_nil]; omega)) | exact sd_)) ?_
           refine u_mv (hq := by (first | ((simp only [List.length_append, List.length_cons, List.length_nil]; omega)) | exact sd_)) ?_
           refine u_mv (hq := by (first | ((simp only [List.length_append, List.length_cons, List.length_nil]; omega)) | exact sd_)) ?_
           refine u_mv (hq := by (first | ((simp only [List.length_append, List.length_cons, List.length_nil]; omega)) | exact sd_)) ?_
           refine lg_nil ?_
           refine h60 _ ?_; clear h60; try clear N60
           refine vc_ret ?_
           try simp only [k_rules]
           rw [hbn]
           refine fin2_ ?_
           exact cl_
          ·rw [if_neg (by have := hb59; (try simp at this); omega)] at hS3
           subst hS3
           refine vc_skip ?_
           try simp only [k_rules]
           refine h57 _ ?_; clear h57; try clear N57
           refine vc_seq_k fun N61 h61 => ?_
           refine u_reg ?_
           try refine lg_mk ?_
           refine u_mv (hq := by (first | ((simp only [List.length_append, List.length_cons, List.length_nil]; omega)) | exact sd_)) ?_
           refine u_mv (hq := by (first | ((simp only [List.length_append, List.length_cons, List.length_nil]; omega)) | exact sd_)) ?_
           refine u_bn (hq := by (first | ((simp only [List.length_append, List.length_cons, List.length_nil]; omega)) | exact sd_)) ?_
           refine u_mv (hq := by (first | ((simp only [List.length_append, List.length_cons, List.length_nil]; omega)) | exact sd_)) ?_
           refine u_bn (hq := by (first | ((simp only [List.length_append, List.length_cons, List.length_nil]; omega)) | exact sd_)) ?_
           refine u_mv (hq := by (first | ((simp only [List.length_append, List.length_cons, List.length_nil]; omega)) | exact sd_)) ?_
           refine u_mv (hq := by (first | ((simp only [List.length_append, List.length_cons, List.length_nil]; omega)) | exact sd_)) ?_
           refine u_mv (hq := by (first | ((simp only [List.length_append, List.length_cons, List.length_nil]; omega)) | exact sd_)) ?_
           refine lg_nil ?_
           refine h61 _ ?_; clear h61; try clear N61
           refine vc_ret ?_
           try simp only [k_rules]
           rw [hbn]
           refine fin2_ ?_
           exact cl_
         ·rw [if_neg (by have := hb56; (try simp at this); omega)] at hS3
          refine vc_skip ?_
          try simp only [k_rules]
          refine h54 _ ?_; clear h54; try clear N54
          refine vc_seq_k fun N62 h62 => ?_
          refine vc_seq_k fun N63 h63 => ?_
          refine u_reg ?_
          try refine lg_mk ?_
          refine u_mv ?_
          refine u_mv ?_
          refine u_bn ?_
          refine lg_nil ?_
          refine h63 _ ?_; clear h63; try clear N63
          refine u_cond (fun hb64 => ?_) (fun hb64 => ?_)
          ·rw [if_pos (by have := hb64; (try simp at this); omega)] at hS3
           subst hS3
           refine u_reg ?_
           try refine lg_mk ?_
           refine u_mv (hq := by (first | ((simp only [List.length_append, List.length_cons, List.length_nil]; omega)) | exact sd_)) ?_
           refine u_bn (hq := by (first | ((simp only [List.length_append, List.length_cons, List.length_nil]; omega)) | exact sd_)) ?_
           refine u_bn (hq := by (first | ((simp only [List.length_append, List.length_cons, List.length_nil]; omega)) | exact sd_)) ?_
           refine u_mv (hq := by (first | ((simp only [List.length_append, List.length_cons, List.length_nil]; omega)) | exact sd_)) ?_
           refine lg_nil ?_
           refine h62 _ ?_; clear h62; try clear N62
           refine vc_seq_k fun N65 h65 => ?_
           refine u_reg ?_
           try refine lg_mk ?_
           refine u_mv (hq := by (first | ((simp only [List.length_append, List.length_cons, List.length_nil]; omega)) | exact sd_)) ?_
           refine u_mv (hq := by (first | ((simp only [List.length_append, List.length_cons, List.length_nil]; omega)) | exact sd_)) ?_
           refine u_bn (hq := by (first | ((simp only [List.length_append, List.length_cons, List.length_nil]; omega)) | exact sd_)) ?_
           refine u_mv (hq := by (first | ((simp only [List.length_append, List.length_cons, List.length_nil]; omega)) | exact sd_)) ?_
           refine u_bn (hq := by (first | ((simp only [List.length_append, List.length_cons, List.length_nil]; omega)) | exact sd_)) ?_
           refine u_mv (hq := by (first | ((simp only [List.length_append, List.length_cons, List.length_nil]; omega)) | exact sd_)) ?_
           refine u_mv (hq := by (first | ((simp only [List.length_append, List.length_cons, List.length_nil]; omega)) | exact sd_)) ?_
           refine u_mv (hq := by (first | ((simp only [List.length_append, List.length_cons, List.length_nil]; omega)) | exact sd_)) ?_
           refine lg_nil ?_
           refine h65 _ ?_; clear h65; try clear N65
           refine vc_ret ?_
           try simp only [k_rules]
           rw [hbn]
           refine fin2_ ?_
           exact cl_
          ·rw [if_neg (by have := hb64; (try simp at this); omega)] at hS3
           subst hS3
           refine vc_skip ?_
           try simp only [k_rules]
           refine h62 _ ?_; clear h62; try clear N62
           refine vc_seq_k fun N66 h66 => ?_
           refine u_reg ?_
           try refine lg_mk ?_
           refine u_mv (hq := by (first | ((simp only [List.length_append, List.length_cons, List.length_nil]; omega)) | exact sd_)) ?_
           refine u_mv (hq := by (first | ((simp only [List.length_append, List.length_cons, List.length_nil]; omega)) | exact sd_)) ?_
           refine u_bn (hq := by (first | ((simp only [List.length_append, List.length_cons, List.length_nil]; omega)) | exact sd_)) ?_
           refine u_mv (hq := by (first | ((simp only [List.length_append, List.length_cons, List.length_nil]; omega)) | exact sd_)) ?_
           refine u_bn (hq := by (first | ((simp only [List.length_append, List.length_cons, List.length_nil]; omega)) | exact sd_)) ?_
           refine u_mv (hq := by (first | ((simp only [List.length_append, List.length_cons, List.length_nil]; omega)) | exact sd_)) ?_
           refine u_mv (hq := by (first | ((simp only [List.length_append, List.length_cons, List.length_nil]; omega)) | exact sd_)) ?_
           refine u_mv (hq := by (first | ((simp only [List.length_append, List.length_cons, List.length_nil]; omega)) | exact sd_)) ?_
           refine lg_nil ?_
           refine h66 _ ?_; clear h66; try clear N66
           refine vc_ret ?_
           try simp only [k_rules]
           rw [hbn]
           refine fin2_ ?_
           exact cl_
        ·obtain rfl : a = 15 := by have := hb52; (try simp at this); (try simp at h86); omega
         have hlv : lvN 15 = 1 := rfl
         have hsg : signN 15 = [32, 38, 32] := rfl
         have hbn : bndN 15 = 1 := rfl
         rw [hlv, hsg] at hS3
         refine vc_skip ?_
         try simp only [k_rules]
         refine h50 _ ?_; clear h50; try clear N50
         refine vc_seq_k fun N67 h67 => ?_
         refine vc_seq_k fun N68 h68 => ?_
         refine u_reg ?_
         try refine lg_mk ?_
         refine u_mv ?_
         refine u_mv ?_
         refine u_bn ?_
         refine lg_nil ?_
         refine h68 _ ?_; clear h68; try clear N68
         refine u_cond (fun hb69 => ?_) (fun hb69 => ?_)
         ·rw [if_pos (by have := hb69; (try simp at this); omega)] at hS3
          refine u_reg ?_
          try refine lg_mk ?_
          refine u_mv (hq := by (first | ((simp only [List.length_append, List.length_cons, List.length_nil]; omega)) | exact sd_)) ?_
          refine u_bn (hq := by (first | ((simp only [List.length_append, List.length_cons, List.length_nil]; omega)) | exact sd_)) ?_
          refine u_bn (hq := by (first | ((simp only [List.length_append, List.length_cons, List.length_nil]; omega)) | exact sd_)) ?_
          refine u_mv (hq := by (first | ((simp only [List.length_append, List.length_cons, List.length_nil]; omega)) | exact sd_)) ?_
          refine lg_nil ?_
          refine h67 _ ?_; clear h67; try clear N67
          refine vc_seq_k fun N70 h70 => ?_
          refine vc_seq_k fun N71 h71 => ?_
          refine u_reg ?_
          try refine lg_mk ?_
          refine u_mv ?_
          refine u_mv ?_
          refine u_bn ?_
          refine lg_nil ?_
          refine h71 _ ?_; clear h71; try clear N71
          refine u_cond (fun hb72 => ?_) (fun hb72 => ?_)
          ·rw [if_pos (by have := hb72; (try simp at this); omega)] at hS3
           subst hS3
           refine u_reg ?_
           try refine lg_mk ?_
           refine u_mv (hq := by (first | ((simp only [List.length_append, List.length_cons, List.length_nil]; omega)) | exact sd_)) ?_
           refine u_bn (hq := by (first | ((simp only [List.length_append, List.length_cons, List.length_nil]; omega)) | exact sd_)) ?_
           refine u_bn (hq := by (first | ((simp only [List.length_append, List.length_cons, List.length_nil]; omega)) | exact sd_)) ?_
           refine u_mv (hq := by (first | ((simp only [List.length_append, List.length_cons, List.length_nil]; omega)) | exact sd_)) ?_
           refine lg_nil ?_
           refine h70 _ ?_; clear h70; try clear N70
           refine vc_seq_k fun N73 h73 => ?_
           refine u_reg ?_
           try refine lg_mk ?_
           refine u_mv (hq := by (first | ((simp only [List.length_append, List.length_cons, List.length_nil]; omega)) | exact sd_)) ?_
           refine u_mv (hq := by (first | ((simp only [List.length_append, List.length_cons, List.length_nil]; omega)) | exact sd_)) ?_
           refine u_bn (hq := by (first | ((simp only [List.length_append, List.length_cons, List.length_nil]; omega)) | exact sd_)) ?_
           refine u_mv (hq := by (first | ((simp only [List.length_append, List.length_cons, List.length_nil]; omega)) | exact sd_)) ?_
           refine u_bn (hq := by (first | ((simp only [List.length_append, List.length_cons, List.length_nil]; omega)) | exact sd_)) ?_
           refine u_mv (hq := by (first | ((simp only [List.length_append, List.length_cons, List.length_nil]; omega)) | exact sd_)) ?_
           refine u_mv (hq := by (first | ((simp only [List.length_append, List.length_cons, List.length_nil]; omega)) | exact sd_)) ?_
           refine u_mv (hq := by (first | ((simp only [List.length_append, List.length_cons, List.length_nil]; omega)) | exact sd_)) ?_
           refine lg_nil ?_
           refine h73 _ ?_; clear h73; try clear N73
           refine vc_ret ?_
           try simp only [k_rules]
           rw [hbn]
           refine fin2_ ?_
           exact cl_
          ·rw [if_neg (by have := hb72; (try simp at this); omega)] at hS3
           subst hS3
           refine vc_skip ?_
           try simp only [k_rules]
           refine h70 _ ?_; clear h70; try clear N70
           refine vc_seq_k fun N74 h74 => ?_
           refine u_reg ?_
           try refine lg_mk ?_
           refine u_mv (hq := by (first | ((simp only [List.length_append, List.length_cons, List.length_nil]; omega)) | exact sd_)) ?_
           refine u_mv (hq := by (first | ((simp only [List.length_append, List.length_cons, List.length_nil]; omega)) | exact sd_)) ?_
           refine u_bn (hq := by (first | ((simp only [List.length_append, List.length_cons, List.length_nil]; omega)) | exact sd_)) ?_
           refine u_mv (hq := by (first | ((simp only [List.length_append, List.length_cons, List.length_nil]; omega)) | exact sd_)) ?_
           refine u_bn (hq := by (first | ((simp only [List.length_append, List.length_cons, List.length_nil]; omega)) | exact sd_)) ?_
           refine u_mv (hq := by (first | ((simp only [List.length_append, List.length_cons, List.length_nil]; omega)) | exact sd_)) ?_
           refine u_mv (hq := by (first | ((simp only [List.length_append, List.length_cons, List.length_nil]; omega)) | exact sd_)) ?_
           refine u_mv (hq := by (first | ((simp only [List.length_append, List.length_cons, List.length_nil]; omega)) | exact sd_)) ?_
           refine lg_nil ?_
           refine h74 _ ?_; clear h74; try clear N74
           refine vc_ret ?_
           try simp only [k_rules]
           rw [hbn]
           refine fin2_ ?_
           exact cl_
         ·rw [if_neg (by have := hb69; (try simp at this); omega)] at hS3
          refine vc_skip ?_
          try simp only [k_rules]
          refine h67 _ ?_; clear h67; try clear N67
          refine vc_seq_k fun N75 h75 => ?_
          refine vc_seq_k fun N76 h76 => ?_
          refine u_reg ?_
          try refine lg_mk ?_
          refine u_mv ?_
          refine u_mv ?_
          refine u_bn ?_
          refine lg_nil ?_
          refine h76 _ ?_; clear h76; try clear N76
          refine u_cond (fun hb77 => ?_) (fun hb77 => ?_)
          ·rw [if_pos (by have := hb77; (try simp at this); omega)] at hS3
           subst hS3
           refine u_reg ?_
           try refine lg_mk ?_
           refine u_mv (hq := by (first | ((simp only [List.length_append, List.length_cons, List.length_nil]; omega)) | exact sd_)) ?_
           refine u_bn (hq := by (first | ((simp only [List.length_append, List.length_cons, List.length_nil]; omega)) | exact sd_)) ?_
           refine u_bn (hq := by (first | ((simp only [List.length_append, List.length_cons, List.length_nil]; omega)) | exact sd_)) ?_
           refine u_mv (hq := by (first | ((simp only [List.length_append, List.length_cons, List.length_nil]; omega)) | exact sd_)) ?_
           refine lg_nil ?_
           refine h75 _ ?_; clear h75; try clear N75
           refine vc_seq_k fun N78 h78 => ?_
           refine u_reg ?_
           try refine lg_mk ?_
           refine u_mv (hq := by (first | ((simp only [List.length_append, List.length_cons, List.length_nil]; omega)) | exact sd_)) ?_
           refine u_mv (hq := by (first | ((simp only [List.length_append, List.length_cons, List.length_nil]; omega)) | exact sd_)) ?_
           refine u_bn (hq := by (first | ((simp only [List.length_append, List.length_cons, List.length_nil]; omega)) | exact sd_)) ?_
           refine u_mv (hq := by (first | ((simp only [List.length_append, List.length_cons, List.length_nil]; omega)) | exact sd_)) ?_
           refine u_bn (hq := by (first | ((simp only [List.length_append, List.length_cons, List.length_nil]; omega)) | exact sd_)) ?_
           refine u_mv (hq := by (first | ((simp only [List.length_append, List.length_cons, List.length_nil]; omega)) | exact sd_)) ?_
           refine u_mv (hq := by (first | ((simp only [List.length_append, List.length_cons, List.length_nil]; omega)) | exact sd_)) ?_
           refine u_mv (hq := by (first | ((simp only [List.length_append, List.length_cons, List.length_nil]; omega)) | exact sd_)) ?_
           refine lg_nil ?_
           refine h78 _ ?_; clear h78; try clear N78
           refine vc_ret ?_
           try simp only [k_rules]
           rw [hbn]
           refine fin2_ ?_
           exact cl_
          ·rw [if_neg (by have := hb77; (try simp at this); omega)] at hS3
           subst hS3
           refine vc_skip ?_
           try simp only [k_rules]
           refine h75 _ ?_; clear h75; try clear N75
           refine vc_seq_k fun N79 h79 => ?_
           refine u_reg ?_
           try refine lg_mk ?_
           refine u_mv (hq := by (first | ((simp only [List.length_append, List.length_cons, List.length_nil]; omega)) | exact sd_)) ?_
           refine u_mv (hq := by (first | ((simp only [List.length_append, List.length_cons, List.length_nil]; omega)) | exact sd_)) ?_
           refine u_bn (hq := by (first | ((simp only [List.length_append, List.length_cons, List.length_nil]; omega)) | exact sd_)) ?_
           refine u_mv (hq := by (first | ((simp only [List.length_append, List.length_cons, List.length_nil]; omega)) | exact sd_)) ?_
           refine u_bn (hq := by (first | ((simp only [List.length_append, List.length_cons, List.length_nil]; omega)) | exact sd_)) ?_
           refine u_mv (hq := by (first | ((simp only [List.length_append, List.length_cons, List.length_nil]; omega)) | exact sd_)) ?_
           refine u_mv (hq := by (first | ((simp only [List.length_append, List.length_cons, List.length_nil]; omega)) | exact sd_)) ?_
           refine u_mv (hq := by (first | ((simp only [List.length_append, List.length_cons, List.length_nil]; omega)) | exact sd_)) ?_
           refine lg_nil ?_
           refine h79 _ ?_; clear h79; try clear N79
           refine vc_ret ?_
           try simp only [k_rules]
           rw [hbn]
           refine fin2_ ?_
           exact cl_
 ·cases hg
end Go.Proofs.YtlbjffdaooadoaaDoor
