/- Walks, printed by wip/gen/walk.py. -/
import Derived.Test.YtiijkbidkdmilaaT61
import Derived.Test.YtiijkbidkdmilaaV5
set_option linter.all false
set_option maxRecDepth 100000
set_option maxHeartbeats 4000000
namespace Go.Proofs.Ytiijkbidkdmilaa
open Go Go.Vc Go.RowKit
theorem Build_meets : Meets Try.prog 5 (Spec.pure BldG) := by
 refine meets_fun (E_build.at_ 23) Try.func5 rfl rfl rfl ?_
 intro args p r hg hp
 unfold BldG at hg
 split at hg
 ·rename_i xs
  simp only [Option.some.injEq, Prod.mk.injEq] at hg
  obtain ⟨rfl, rfl⟩ := hg
  obtain ⟨he, hl, hsm⟩ := hp
  generalize dO xs = S at *
  subst he
  have hT : (E_build).X = T := rfl
  have hx0 := And.intro @rect_eO (And.intro @dI_rows (And.intro @dU_rows (And.intro @dO_rows @Try.results5)))
  have hx := hx0
  refine ⟨by rfl, ?_⟩
  intro F W0 hnp hmk
  refine vc_seq_k fun N1 h1 => ?_
  refine u_reg ?_
  try refine lg_mk ?_
  refine u_bx ?_
  refine u_mv ?_
  refine u_al ?_
  refine lg_nil ?_
  refine h1 _ ?_; clear h1; try clear N1
  refine vc_seq_k fun N2 h2 => ?_
  refine vc_seq_k fun N3 h3 => ?_
  refine u_reg ?_
  try refine lg_mk ?_
  refine u_ld ?_
  have hc := call_rule (E := (E_build.at_ 23)) (f := 13) (sp := Spec.pure valG) rfl
  have hs := @valG.eq_1
  refine u_cp (hq := by (first | (exact ⟨hl, hsm⟩) | exact sd_)) ?_
  refine u_al ?_
  refine u_st ?_
  refine lg_nil ?_
  refine h3 _ ?_; clear h3; try clear N3
  refine vc_seq_k fun N4 h4 => ?_
  rcases stF_or S with ⟨hvx, hv⟩ | hvx
  ·have hz1 : (stF S).1 = 0 := by rw [hvx]
   have hz2 : (stF S).2 = 0 := by rw [hvx]
   have hlen := hv.len
   refine u_reg ?_
   try refine lg_mk ?_
   refine u_ld ?_
   refine u_bd ?_
   refine u_bn ?_
   refine lg_nil ?_
   refine h4 _ ?_; clear h4; try clear N4
   refine u_cond (fun hb5 => ?_) (fun hb5 => ?_)
   ·exact absurd (And.intro hz1 hz2) (by have := hb5; simpa using this)
   ·refine vc_skip ?_
    try simp only [k_rules]
    refine h2 _ ?_; clear h2; try clear N2
    refine vc_seq_k fun N6 h6 => ?_
    refine u_reg ?_
    try refine lg_mk ?_
    refine u_ld ?_
    have hc := call_rule (E := (E_build.at_ 23)) (f := 14) (sp := Spec.pure bldG) rfl
    have hs := @bldG.eq_1
    refine u_hp (hq := by (first | (exact hv) | exact sd_)) ?_
    refine u_mv ?_
    refine u_ex ?_
    refine u_ex ?_
    refine u_mv ?_
    refine u_mv ?_
    refine lg_nil ?_
    refine h6 _ ?_; clear h6; try clear N6
    refine vc_seq_k fun N7 h7 => ?_
    refine vc_seq_k fun N8 h8 => ?_
    refine u_reg ?_
    try refine lg_mk ?_
    refine u_mv ?_
    refine u_un ?_
    refine lg_nil ?_
    refine h8 _ ?_; clear h8; try clear N8
    refine u_cond (fun hb9 => ?_) (fun hb9 => ?_)
    ·have hok : okP S = false := by simpa using hb9
     refine vc_seq_k fun N10 h10 => ?_
     refine u_reg ?_
     try refine lg_mk ?_
     refine u_bd ?_
     refine u_mv ?_
     refine u_st ?_
     refine lg_nil ?_
     refine h10 _ ?_; clear h10; try clear N10
     refine vc_ret ?_
     try simp only [k_rules]
     have hr : BldF S = (10, -1) := by unfold BldF; rw [if_neg (by rw [hz1]; simp), hok]; rfl
     have hr2 : BldB S = [] := by unfold BldB; rw [hr]; rfl
     rw [hr, hr2]
     refine fin2_ ?_
     exact cl_
    ·have hok : okP S = true := by simpa using hb9
     refine vc_skip ?_
     try simp only [k_rules]
     refine h7 _ ?_; clear h7; try clear N7
     refine vc_seq_k fun N11 h11 => ?_
     refine u_reg ?_
     try refine lg_mk ?_
     refine u_mv ?_
     refine u_bd ?_
     refine u_mv ?_
     refine u_st ?_
     refine lg_nil ?_
     refine h11 _ ?_; clear h11; try clear N11
     refine vc_ret ?_
     try simp only [k_rules]
     have hr : BldF S = (0, 0) := by unfold BldF; rw [if_neg (by rw [hz1]; simp), hok]; rfl
     have hr2 : BldB S = pkB S := by unfold BldB; rw [hr]; rfl
     rw [hr, hr2]
     refine fin2_ ?_
     exact cl_
  ·have hz1 := hvx
   refine u_reg ?_
   try refine lg_mk ?_
   refine u_ld ?_
   refine u_bd ?_
   refine u_bn ?_
   refine lg_nil ?_
   refine h4 _ ?_; clear h4; try clear N4
   refine u_cond (fun hb12 => ?_) (fun hb12 => ?_)
   ·refine vc_seq_k fun N13 h13 => ?_
    refine u_reg ?_
    try refine lg_mk ?_
    refine u_ld ?_
    refine u_mv ?_
    refine u_st ?_
    refine lg_nil ?_
    refine h13 _ ?_; clear h13; try clear N13
    refine vc_ret ?_
    try simp only [k_rules]
    have hr : BldF S = stF S := by unfold BldF; rw [if_pos hz1]
    have hr2 : BldB S = [] := by unfold BldB; rw [hr, if_pos hz1]
    rw [hr, hr2]
    refine fin2_ ?_
    exact cl_
   ·exact absurd (show (stF S).1 = 0 by have := hb12; first | exact this.1 | exact (Classical.not_not.1 this).1 | (simp at this; exact this.1)) hz1
 ·cases hg

def E_Build : Env Try.prog := E_build.add 5 (Spec.pure BldG) Build_meets (by kernel_rfl)

theorem ent_get (o : Obj) (r : List UInt8) : (entB o ++ r)[0]? = some (UInt8.ofNat (o.kd % 256).toNat) ∧ (entB o ++ r)[1]? = some (UInt8.ofNat (o.ln.length % 256)) ∧ (entB o ++ r)[2]? = some (UInt8.ofNat (o.da.length / 256 % 256)) ∧ (entB o ++ r)[3]? = some (UInt8.ofNat (o.da.length % 256)) ∧ (entB o ++ r).drop 4 = lnB o.ln ++ (o.da ++ r) := by
  unfold entB entH; simp
theorem byI {n : Nat} (h : n < 256) : ((UInt8.ofNat (n % 256)).toNat : Int) = n := by rw [UInt8.toNat_ofNat']; omega
theorem byZ {n : Int} (h0 : 0 ≤ n) (h : n < 256) : ((UInt8.ofNat (n % 256).toNat).toNat : Int) = n := by rw [UInt8.toNat_ofNat']; omega
theorem lnB_at {l : List Int} {i : Nat} {x : Int} (h : l[i]? = some x) (r : List UInt8) : lnB (l.drop i) ++ r = wide x ++ (lnB (l.drop (i + 1)) ++ r) := by
  obtain ⟨h1, h2⟩ := List.getElem?_eq_some_iff.1 h
  rw [List.drop_eq_getElem_cons h1, h2]; unfold lnB; rw [List.flatMap_cons]; simp
theorem lnB_end {l : List Int} (r : List UInt8) : lnB (l.drop l.length) ++ r = r := by rw [List.drop_length]; rfl

theorem objP_meets : Meets Try.prog 31 (Spec.pure objPG) := by
 refine meets_fun (E_Build.at_ 65) Try.func31 rfl rfl rfl ?_
 intro args p r hg hp
 unfold objPG at hg
 split at hg
 ·rename_i xs
  simp only [Option.some.injEq, Prod.mk.injEq] at hg
  obtain ⟨rfl, rfl⟩ := hg
  obtain ⟨o, r, ho, he, hl⟩ := hp
  subst he
  rw [dU_rows]
  obtain ⟨e1, e2⟩ := dec_ent ho r
  rw [e1, e2]
  obtain ⟨g0, g1, g2, g3, g4⟩ := ent_get o r
  have hel := entB_len o
  have hll := lnB_len o.ln
  have g5 : List.take ((entB o ++ r).length - 4) (lnB o.ln ++ (o.da ++ r)) = lnB o.ln ++ (o.da ++ r) := List.take_of_length_le (by simp only [List.length_append]; omega)
  have hlx : (lnB o.ln ++ (o.da ++ r)).length = 8 * o.ln.length + (o.da.length + r.length) := by simp only [List.length_append]; omega
  obtain ⟨k, l, u⟩ := o
  dsimp only at *
  have hk := ho.kd
  have hol : l.length ≤ 30 := ho.ln
  have hou : u.length ≤ 1000 := ho.da
  have hlr : (entB ⟨k, l, u⟩ ++ r).length = (entB ⟨k, l, u⟩).length + r.length := List.length_append
  dsimp only at hk
  have b0 := byZ (n := k) (by omega) (by omega)
  have b1 := byI (n := l.length) (by omega)
  have b2 := byI (n := u.length / 256) (by omega)
  have b3 : ((UInt8.ofNat (u.length % 256)).toNat : Int) = ((u.length % 256 : Nat) : Int) := by rw [UInt8.toNat_ofNat']; omega
  have hsh := shl8 (a := ((u.length / 256 : Nat) : Int)) (by omega) (by omega)
  have hor := or_byte (a := ((u.length / 256 : Nat) : Int)) (b := ((u.length % 256 : Nat) : Int)) (by omega) (by omega) (by omega) (by omega)
  have hsu : ((u.length / 256 : Nat) : Int) * 256 + ((u.length % 256 : Nat) : Int) = (u.length : Nat) := by omega
  have hT : (E_Build).X = T := rfl
  have hx0 := And.intro @dU_rows (And.intro @rect_eU (And.intro @dec_t (And.intro @dec_f @Try.results31)))
  have hx := hx0
  refine ⟨by rfl, ?_⟩
  intro F W0 hnp hmk
  refine vc_seq_k fun N1 h1 => ?_
  refine u_reg ?_
  try refine lg_mk ?_
  refine u_al (hq := by (first | (omega) | exact sd_)) ?_
  refine u_mv (hq := by (first | (omega) | exact sd_)) ?_
  refine u_mv (hq := by (first | (omega) | exact sd_)) ?_
  refine lg_nil ?_
  refine h1 _ ?_; clear h1; try clear N1
  refine vc_seq_k fun N2 h2 => ?_
  refine vc_seq_k fun N3 h3 => ?_
  refine u_reg ?_
  try refine lg_mk ?_
  refine u_mv (hq := by (first | (omega) | exact sd_)) ?_
  refine u_ln (hq := by (first | (omega) | exact sd_)) ?_
  refine u_bn (hq := by (first | (omega) | exact sd_)) ?_
  refine lg_nil ?_
  refine h3 _ ?_; clear h3; try clear N3
  refine u_cond (fun hb4 => ?_) (fun hb4 => ?_)
  ·first | omega | exact absurd trivial hb4 | contradiction | (simp_all; done)
  ·refine vc_skip ?_
   try simp only [k_rules]
   refine h2 _ ?_; clear h2; try clear N2
   refine vc_seq_k fun N5 h5 => ?_
   have hx := And.intro @g0 (And.intro @eU.eq_1 (And.intro @b0 hx0))
   refine u_reg ?_
   try refine lg_mk ?_
   refine u_mv (hq := by (first | (omega) | exact sd_)) ?_
   refine u_pt (hq := by (first | (omega) | exact sd_)) ?_
   refine u_ld (hq := by (first | (omega) | exact sd_)) ?_
   refine u_cv (hq := by (first | (omega) | exact sd_)) ?_
   refine u_bd (hq := by (first | (omega) | exact sd_)) ?_
   refine u_al (hq := by (first | (omega) | exact sd_)) ?_
   refine u_st (hq := by (first | (omega) | exact sd_)) ?_
   refine lg_nil ?_
   have hx := hx0
   refine h5 _ ?_; clear h5; try clear N5
   refine vc_seq_k fun N6 h6 => ?_
   have hx := And.intro @g1 (And.intro @g2 (And.intro @g3 (And.intro @eU.eq_1 (And.intro @b1 (And.intro @b2 (And.intro @b3 (And.intro @hsh (And.intro @hor (And.intro @hsu hx0)))))))))
   refine u_reg ?_
   try refine lg_mk ?_
   refine u_mv (hq := by (first | (omega) | exact sd_)) ?_
   refine u_pt (hq := by (first | (omega) | exact sd_)) ?_
   refine u_ld (hq := by (first | (omega) | exact sd_)) ?_
   refine u_cv (hq := by (first | (omega) | exact sd_)) ?_
   refine u_mv (hq := by (first | (omega) | exact sd_)) ?_
   refine u_pt (hq := by (first | (omega) | exact sd_)) ?_
   refine u_ld (hq := by (first | (omega) | exact sd_)) ?_
   refine u_cv (hq := by (first | (omega) | exact sd_)) ?_
   refine u_bn (hq := by (first | (omega) | exact sd_)) ?_
   refine u_mv (hq := by (first | (omega) | exact sd_)) ?_
   refine u_pt (hq := by (first | (omega) | exact sd_)) ?_
   refine u_ld (hq := by (first | (omega) | exact sd_)) ?_
   refine u_cv (hq := by (first | (omega) | exact sd_)) ?_
   refine u_bn (hq := by (first | (omega) | exact sd_)) ?_
   refine u_mv (hq := by (first | (omega) | exact sd_)) ?_
   refine u_mv (hq := by (first | (omega) | exact sd_)) ?_
   refine lg_nil ?_
   have hx := hx0
   refine h6 _ ?_; clear h6; try clear N6
   refine vc_seq_k fun N7 h7 => ?_
   refine vc_seq_k fun N8 h8 => ?_
   have hx := And.intro @g4 (And.intro @g5 hx0)
   refine u_reg ?_
   try refine lg_mk ?_
   refine u_mv (hq := by (first | (omega) | exact sd_)) ?_
   refine u_sl (hq := by (first | (omega) | exact sd_)) ?_
   refine u_mv (hq := by (first | (omega) | exact sd_)) ?_
   refine lg_nil ?_
   have hx := hx0
   refine h8 _ ?_; clear h8; try clear N8
   refine vc_seq_k fun N9 h9 => ?_
   refine u_reg ?_
   try refine lg_mk ?_
   refine u_mv (hq := by (first | (omega) | exact sd_)) ?_
   refine u_ln (hq := by (first | (omega) | exact sd_)) ?_
   refine u_mv (hq := by (first | (omega) | exact sd_)) ?_
   refine u_bn (hq := by (first | (omega) | exact sd_)) ?_
   refine u_mv (hq := by (first | (omega) | exact sd_)) ?_
   refine u_bn (hq := by (first | (omega) | exact sd_)) ?_
   refine u_bn (hq := by (first | (omega) | exact sd_)) ?_
   refine lg_nil ?_
   refine h9 _ ?_; clear h9; try clear N9
   refine u_cond (fun hb10 => ?_) (fun hb10 => ?_)
   ·first | omega | exact absurd trivial hb10 | contradiction | (simp_all; done)
   ·refine vc_skip ?_
    try simp only [k_rules]
    refine h7 _ ?_; clear h7; try clear N7
    refine vc_seq_k fun N11 h11 => ?_
    refine vc_seq_k fun N12 h12 => ?_
    refine vc_nil1 1 1 _ 1 (vec_nil 3 1) rfl rfl rfl ?_
    simp only [updL, List.set, List.cons_append, List.nil_append]
    refine u_reg ?_
    try refine lg_mk ?_
    refine u_mv (hq := by (first | (omega) | exact sd_)) ?_
    refine u_mv (hq := by (first | (omega) | exact sd_)) ?_
    refine lg_nil ?_
    refine h12 _ ?_; clear h12; try clear N12
    refine vc_block ?_
    refine vc_loop_mk (σ := Nat) (fun s => (fun i => i ≤ l.length) s)
     (fun s => (fun i => [(0, .d (.sl (rows eU (lnB (l.drop i) ++ (u ++ r))))), (2, .ptr 0 0 0), (5, .ptr 1 0 0), (6, .d (.int .i64 (l.length : Nat))), (7, .d (.int .i64 (u.length : Nat))), (41, .d (.int .i64 (l.length : Nat))), (42, .d (.int .i64 (i : Nat)))]) s)
     (fun s => (fun i => [some (.one 48 [.d (.int .i64 0), .d .nils, .d .nils]), some (.one 48 [.d (.int .i64 k), .sl 2 0 i, .d .nils]), some (.vec 3 1 (rows eI (l.take i)))]) s) (fun s => (fun i => l.length - i) s) hnp 0 ?_ [some 0, some 1, some 2] ?_ ?_
    ·dsimp only
     omega
    ·dsimp only
     refine ⟨by rfl, ?_, ?_⟩
     ·refine fin_ ?_
      exact cl_
     ·refine fin_ ?_
      exact cl_
    ·rintro i hinv N13 h13
     dsimp only at hinv ⊢
     have i1 := hinv
     refine vc_seq_k fun N14 h14 => ?_
     refine u_reg ?_
     try refine lg_mk ?_
     refine u_bn (hq := by (first | (omega) | exact sd_)) ?_
     refine lg_nil ?_
     refine h14 _ ?_; clear h14; try clear N14
     refine vc_seq_k fun N15 h15 => ?_
     refine u_cond (fun hb16 => ?_) (fun hb16 => ?_)
     ·obtain ⟨x, hxe⟩ := getE (l := l) (i := i) (by omega)
      have hxr := ho.rng x (mem_at hxe)
      have hln := lnB_at hxe (u ++ r)
      have hlz : (lnB (l.drop i) ++ (u ++ r)).length = 8 + (lnB (l.drop (i + 1)) ++ (u ++ r)).length := by rw [hln, List.length_append, wide_len]
      have hn8 : numB ((lnB (l.drop i) ++ (u ++ r)).take 8) = x := by rw [hln, List.take_left' (wide_len x), num_wide hxr.1 hxr.2]
      have hd8 : (lnB (l.drop i) ++ (u ++ r)).drop 8 = lnB (l.drop (i + 1)) ++ (u ++ r) := by rw [hln, List.drop_left' (wide_len x)]
      have hd9 : (lnB (l.drop (i + 1)) ++ (u ++ r)).take ((lnB (l.drop i) ++ (u ++ r)).length - 8) = lnB (l.drop (i + 1)) ++ (u ++ r) := List.take_of_length_le (by omega)
      have hsn := take_snoc hxe
      refine vc_skip ?_
      try simp only [k_rules]
      refine h15 _ ?_; clear h15; try clear N15
      refine vc_seq_k fun N17 h17 => ?_
      refine vc_block ?_
      refine vc_seq_k fun N18 h18 => ?_
      have hx := And.intro @hn8 hx0
      refine vc_regG [42] hmix (by kernel_rfl) ?_
      try refine lg_mk ?_
      refine u_pt (hq := by (first | (omega) | exact sd_)) ?_
      refine u_ld (hq := by (first | (omega) | exact sd_)) ?_
      refine u_mv (hq := by (first | (omega) | exact sd_)) ?_
      have hc := call_rule (E := (E_Build.at_ 65)) (f := 42) (sp := Spec.pure numG) rfl
      have hs := @numG.eq_1
      refine u_cp (hq := by (first | (exact ⟨x, _, hxr.1, hxr.2, by rw [hln]⟩) | exact sd_)) ?_
      refine u_bs (hq := by (first | (omega) | exact sd_)) ?_
      refine u_ap (hq := by (first | (omega) | exact sd_)) ?_
      refine u_pt (hq := by (first | (omega) | exact sd_)) ?_
      refine u_st (hq := by (first | (omega) | exact sd_)) ?_
      refine lg_nil ?_
      have hx := hx0
      refine h18 _ ?_; clear h18; try clear N18
      have hx := And.intro @hd8 (And.intro @hd9 hx0)
      refine u_reg ?_
      try refine lg_mk ?_
      refine u_mv (hq := by (first | (omega) | exact sd_)) ?_
      refine u_sl (hq := by (first | (omega) | exact sd_)) ?_
      refine u_mv (hq := by (first | (omega) | exact sd_)) ?_
      refine lg_nil ?_
      have hx := hx0
      refine h17 _ ?_; clear h17; try clear N17
      refine u_reg ?_
      try refine lg_mk ?_
      refine u_bn (hq := by (first | (omega) | exact sd_)) ?_
      refine u_mv (hq := by (first | (omega) | exact sd_)) ?_
      refine lg_nil ?_
      refine h13 _ ⟨i + 1, ?_, ?_, [some 0, some 1, some 4], ?_⟩
      ·dsimp only
       omega
      ·dsimp only
       omega
      ·dsimp only
       refine ⟨by rfl, ?_, ?_⟩
       ·refine fin_ ?_
        (repeat' apply And.intro) <;> (first | (first | rfl | trivial | omega | (rw [hsn]; simp [rows, eI]; done) | (rw [hsn, List.take_of_length_le (by simp; omega)]; simp [rows, eI]; done)) | exact cl_)
       ·refine fin_ ?_
        (repeat' apply And.intro) <;> (first | (first | rfl | trivial | omega | (rw [hsn]; simp [rows, eI]; done) | (rw [hsn, List.take_of_length_le (by simp; omega)]; simp [rows, eI]; done)) | exact cl_)
     ·obtain rfl : i = l.length := by omega
      rw [List.take_length, lnB_end] at *
      have hux : (u ++ r).length = u.length + r.length := List.length_append
      have htu : List.take u.length (u ++ r) = u := List.take_left' rfl
      have hdu : List.drop u.length (u ++ r) = r := List.drop_left' rfl
      have hdx : List.take ((u ++ r).length - u.length) r = r := List.take_of_length_le (by omega)
      refine vc_exit ?_
      simp only [k_rules, Nat.reduceEqDiff, reduceIte, eq_self]
      refine h11 _ ?_; clear h11; try clear N11
      refine vc_seq_k fun N19 h19 => ?_
      refine vc_nil1 1 2 _ 1 (vec_nil 5 1) rfl rfl rfl ?_
      simp only [updL, List.set, List.cons_append, List.nil_append]
      have hx := And.intro @htu hx0
      refine u_reg ?_
      try refine lg_mk ?_
      refine u_pt (hq := by (first | (omega) | exact sd_)) ?_
      refine u_ld (hq := by (first | (omega) | exact sd_)) ?_
      refine u_mv (hq := by (first | (omega) | exact sd_)) ?_
      refine u_mv (hq := by (first | (omega) | exact sd_)) ?_
      refine u_sl (hq := by (first | (omega) | exact sd_)) ?_
      refine u_ap (hq := by (first | (omega) | exact sd_)) ?_
      refine u_pt (hq := by (first | (omega) | exact sd_)) ?_
      refine u_st (hq := by (first | (omega) | exact sd_)) ?_
      refine lg_nil ?_
      have hx := hx0
      refine h19 _ ?_; clear h19; try clear N19
      refine vc_seq_k fun N20 h20 => ?_
      have hx := And.intro @hdu (And.intro @hdx hx0)
      refine vc_regT [] (.seq [0, 1, 2] (.alt 3 (.seq [4, 5, 6] .nil) (.alt 4 (.seq [3, 5, 6] .nil) .nil))) hmix (by kernel_rfl) ?_
      refine at_seq ?_
      simp only [pick_rules, list_rules]
      try refine lg_mk ?_
      refine u_ld (hq := by (first | (omega) | exact sd_)) ?_
      refine u_mv (hq := by (first | (omega) | exact sd_)) ?_
      refine u_mv (hq := by (first | (omega) | exact sd_)) ?_
      refine lg_nil ?_
      refine at_alt ?_ ?_
      ·simp only [pick_rules, list_rules]
       try refine lg_mk ?_
       refine u_sl (hq := by (first | (omega) | exact sd_)) ?_
       refine lg_nil ?_
       refine at_seq ?_
       simp only [pick_rules, list_rules]
       try refine lg_mk ?_
       refine u_st (hq := by (first | (omega) | exact sd_)) ?_
       refine u_mv (hq := by (first | (omega) | exact sd_)) ?_
       refine u_mv (hq := by (first | (omega) | exact sd_)) ?_
       refine lg_nil ?_
       refine at_nil ?_
       have hx := hx0
       refine h20 _ ?_; clear h20; try clear N20
       refine vc_ret ?_
       try simp only [k_rules]
       refine fin2_ ?_
       exact cl_
      refine at_alt ?_ ?_
      ·simp only [pick_rules, list_rules]
       try refine lg_mk ?_
       refine u_st (hq := by (first | (omega) | exact sd_)) ?_
       refine lg_nil ?_
       refine at_seq ?_
       simp only [pick_rules, list_rules]
       try refine lg_mk ?_
       refine u_sl (hq := by (first | (omega) | exact sd_)) ?_
       refine u_mv (hq := by (first | (omega) | exact sd_)) ?_
       refine u_mv (hq := by (first | (omega) | exact sd_)) ?_
       refine lg_nil ?_
       refine at_nil ?_
       have hx := hx0
       refine h20 _ ?_; clear h20; try clear N20
       refine vc_ret ?_
       try simp only [k_rules]
       refine fin2_ ?_
       exact cl_
      exact at_end
 ·cases hg

def E_objP : Env Try.prog := E_Build.add 31 (Spec.pure objPG) objP_meets (by kernel_rfl)
end Go.Proofs.Ytiijkbidkdmilaa
