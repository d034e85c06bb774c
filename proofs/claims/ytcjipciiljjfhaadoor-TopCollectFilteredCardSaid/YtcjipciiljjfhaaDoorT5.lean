/- Walks, printed by wip/gen/walk.py. -/
import Derived.Test.YtcjipciiljjfhaaDoorT4
import Derived.Test.YtcjipciiljjfhaaDoorV5
set_option linter.all false
set_option maxRecDepth 100000
set_option maxHeartbeats 4000000
namespace Go.Proofs.YtcjipciiljjfhaaDoor
open Go Go.Vc Go.RowKit
theorem bytes_meets : Meets Tryd.prog 29 (Spec.pure bytesG) := by
 refine meets_fun (E_big.at_ 30) Tryd.func29 rfl rfl rfl ?_
 intro args p r hg hp
 unfold bytesG at hg
 split at hg
 ·rename_i k ls ds
  simp only [Option.some.injEq, Prod.mk.injEq] at hg
  obtain ⟨rfl, rfl⟩ := hg
  obtain ⟨he, he2, hok⟩ := hp
  generalize dI ls = l at *
  generalize dU ds = u at *
  subst he he2
  have hol : l.length ≤ 30 := hok.ln
  have hou : u.length ≤ 1000 := hok.da
  have hob := objB_len ⟨k, l, u⟩
  dsimp only at hob
  have hT : (E_big).X = T := rfl
  have hx0 := And.intro @wrap8 (And.intro @wrap8N @Tryd.results29)
  have hx := hx0
  refine ⟨by rfl, ?_⟩
  intro F W0 hnp hmk
  refine vc_seq_k fun N1 h1 => ?_
  refine u_reg ?_
  try refine lg_mk ?_
  refine u_bx (hq := by (first | (omega) | exact sd_)) ?_
  refine u_mv (hq := by (first | (omega) | exact sd_)) ?_
  refine lg_nil ?_
  refine h1 _ ?_; clear h1; try clear N1
  refine vc_seq_k fun N2 h2 => ?_
  refine u_reg ?_
  try refine lg_mk ?_
  refine u_pt (hq := by (first | (omega) | exact sd_)) ?_
  refine u_ld (hq := by (first | (omega) | exact sd_)) ?_
  refine u_cv (hq := by (first | (omega) | exact sd_)) ?_
  refine u_pt (hq := by (first | (omega) | exact sd_)) ?_
  refine u_ld (hq := by (first | (omega) | exact sd_)) ?_
  refine u_ln (hq := by (first | (omega) | exact sd_)) ?_
  refine u_cv (hq := by (first | (omega) | exact sd_)) ?_
  refine u_bs (hq := by (first | (omega) | exact sd_)) ?_
  refine u_mv (hq := by (first | (omega) | exact sd_)) ?_
  refine lg_nil ?_
  refine h2 _ ?_; clear h2; try clear N2
  refine vc_seq_k fun N3 h3 => ?_
  refine vc_seq_k fun N4 h4 => ?_
  refine u_reg ?_
  try refine lg_mk ?_
  refine u_pt (hq := by (first | (omega) | exact sd_)) ?_
  refine u_ld (hq := by (first | (omega) | exact sd_)) ?_
  refine u_ln (hq := by (first | (omega) | exact sd_)) ?_
  refine u_mv (hq := by (first | (omega) | exact sd_)) ?_
  refine lg_nil ?_
  refine h4 _ ?_; clear h4; try clear N4
  refine vc_block ?_
  refine vc_loop_mk (σ := Nat) (fun s => (fun i => i ≤ l.length) s)
   (fun s => (fun i => [(1, .ptr 0 0 0), (3, .sl 1 0 (2 + 8 * i)), (15, .d (.sl (rows eI l))), (16, .d (.int .i64 (l.length : Nat))), (17, .d (.int .i64 (i : Nat)))]) s)
   (fun s => (fun i => [some (.one 44 [.d (.int .i64 k), .d (.sl (rows eI l)), .d (.sl (rows eU u))]), some (.vec 5 1 (rows eU (hdB ⟨k, l, u⟩ i)))]) s) (fun s => (fun i => l.length - i) s) hnp 0 ?_ [some 0, some 1] ?_ ?_
  ·dsimp only
   omega
  ·dsimp only
   refine ⟨by rfl, ?_, ?_⟩
   ·refine fin_ ?_
    exact cl_
   ·refine fin_ ?_
    exact cl_
  ·rintro i hinv N5 h5
   dsimp only at hinv ⊢
   have i1 := hinv
   have hhl := hdB_len (o := ⟨k, l, u⟩) (i := i) i1
   have htk := List.take_of_length_le (Nat.le_of_eq hhl)
   refine vc_seq_k fun N6 h6 => ?_
   refine u_reg ?_
   try refine lg_mk ?_
   refine u_bn (hq := by (first | (omega) | exact sd_)) ?_
   refine lg_nil ?_
   refine h6 _ ?_; clear h6; try clear N6
   refine vc_seq_k fun N7 h7 => ?_
   refine u_cond (fun hb8 => ?_) (fun hb8 => ?_)
   ·obtain ⟨x, hxe⟩ := getE (l := l) (i := i) (by omega)
    have hsn := hdB_snoc (o := ⟨k, l, u⟩) (i := i) (x := x) hxe
    have hxr := hok.rng x (mem_at hxe)
    have hwx := wide_len x
    refine vc_skip ?_
    try simp only [k_rules]
    refine h7 _ ?_; clear h7; try clear N7
    refine vc_seq_k fun N9 h9 => ?_
    refine vc_block ?_
    refine vc_seq_k fun N10 h10 => ?_
    have hx := And.intro @hxe (And.intro @eI.eq_1 hx0)
    refine u_reg ?_
    try refine lg_mk ?_
    refine u_pt (hq := by (first | (omega) | exact sd_)) ?_
    refine u_ld (hq := by (first | (omega) | exact sd_)) ?_
    refine u_mv (hq := by (first | (omega) | exact sd_)) ?_
    refine lg_nil ?_
    have hx := hx0
    refine h10 _ ?_; clear h10; try clear N10
    refine u_reg ?_
    try refine lg_mk ?_
    refine u_mv (hq := by (first | (omega) | exact sd_)) ?_
    refine u_mv (hq := by (first | (omega) | exact sd_)) ?_
    have hc := call_rule (E := (E_big.at_ 30)) (f := 33) (sp := Spec.pure bigG) rfl
    have hs := @bigG.eq_1
    refine u_hp (hq := by (first | (exact ⟨by omega, by omega⟩) | exact sd_)) ?_
    refine u_ap (hq := by (first | (omega) | exact sd_)) ?_
    refine u_mv (hq := by (first | (omega) | exact sd_)) ?_
    refine lg_nil ?_
    refine h9 _ ?_; clear h9; try clear N9
    refine u_reg ?_
    try refine lg_mk ?_
    refine u_bn (hq := by (first | (omega) | exact sd_)) ?_
    refine u_mv (hq := by (first | (omega) | exact sd_)) ?_
    refine lg_nil ?_
    refine h5 _ ⟨i + 1, ?_, ?_, [some 0, some 2], ?_⟩
    ·dsimp only
     omega
    ·dsimp only
     omega
    ·dsimp only
     refine ⟨by rfl, ?_, ?_⟩
     ·refine fin_ ?_
      (repeat' apply And.intro) <;> (first | (first | rfl | trivial | omega | (rw [htk, hsn]; done) | (rw [wide_len]; omega)) | exact cl_)
     ·refine fin_ ?_
      (repeat' apply And.intro) <;> (first | (first | rfl | trivial | omega | (rw [htk, hsn]; done) | (rw [wide_len]; omega)) | exact cl_)
   ·refine vc_exit ?_
    simp only [k_rules, Nat.reduceEqDiff, reduceIte, eq_self]
    refine h3 _ ?_; clear h3; try clear N3
    refine vc_seq_k fun N11 h11 => ?_
    refine u_reg ?_
    try refine lg_mk ?_
    refine u_mv (hq := by (first | (omega) | exact sd_)) ?_
    refine u_pt (hq := by (first | (omega) | exact sd_)) ?_
    refine u_ld (hq := by (first | (omega) | exact sd_)) ?_
    refine u_ap (hq := by (first | (omega) | exact sd_)) ?_
    refine u_mv (hq := by (first | (omega) | exact sd_)) ?_
    refine lg_nil ?_
    refine h11 _ ?_; clear h11; try clear N11
    refine vc_ret ?_
    try simp only [k_rules]
    obtain rfl : i = l.length := by omega
    have hall := hdB_all ⟨k, l, u⟩
    dsimp only at hall
    rw [← hall]
    have hta : List.take (2 + 8 * l.length + u.length) (hdB ⟨k, l, u⟩ l.length ++ u) = hdB ⟨k, l, u⟩ l.length ++ u := List.take_of_length_le (by rw [List.length_append, hhl]; exact Nat.le_refl _)
    refine fin2_ ?_
    (repeat' apply And.intro) <;> (first | (first | rfl | trivial | omega | (rw [htk, hta]; done) | (left; rw [htk, hta]; done) | (rw [hhl]; done)) | exact cl_)
 ·cases hg

def E_bytes : Env Tryd.prog := E_big.add 29 (Spec.pure bytesG) bytes_meets (by kernel_rfl)
end Go.Proofs.YtcjipciiljjfhaaDoor
