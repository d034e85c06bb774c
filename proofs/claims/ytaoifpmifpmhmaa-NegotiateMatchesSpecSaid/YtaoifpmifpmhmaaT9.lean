/- Walks, printed by wip/gen/walk.py. -/
import Derived.Test.YtaoifpmifpmhmaaT8
import Derived.Test.YtaoifpmifpmhmaaV4
set_option linter.all false
set_option maxRecDepth 100000
set_option maxHeartbeats 4000000
namespace Go.Proofs.Ytaoifpmifpmhmaa
open Go Go.Vc Go.RowKit
def bndR (l : List Cm) (ns : List Int) : List Int := ns.filter fun n => (l.getD n.toNat default).par.any (outB ns)
theorem filter_snoc {α : Type} {l : List α} {i : Nat} {x : α} (h : l[i]? = some x) (P : α → Bool) : (l.take (i + 1)).filter P = (l.take i).filter P ++ if P x = true then [x] else [] := by
  rw [List.take_add_one, h, List.filter_append]; simp only [Option.toList_some, List.filter_cons, List.filter_nil]
theorem any_snoc {α : Type} {l : List α} {i : Nat} {x : α} (h : l[i]? = some x) (P : α → Bool) : (l.take (i + 1)).any P = ((l.take i).any P || P x) := by
  rw [List.take_add_one, h, List.any_append]; simp
def bndG : List AV → Option (Prop × AV)
  | [.d (.sl xs), .d (.sl hs)] => some (xs = rows eC (dC xs) ∧ hs = rows eI (dI hs) ∧ (dC xs).length ≤ 9223372036854775807 ∧ smallC (dC xs) ∧ (dI hs).length ≤ 9223372036854775807,
      .tup [.d (.sl (rows eI (if (selF (dC xs) (dI hs)).1 = 0 then bndR (dC xs) (dI hs) else []))), .agg [.d (.int .i64 (selF (dC xs) (dI hs)).1), .d (.int .i64 (selF (dC xs) (dI hs)).2)]])
  | _ => none
def bndOfG : List AV → Option (Prop × AV)
  | [.d (.sl xs), .d (.sl hs)] => some (xs = rows eC (dC xs) ∧ hs = rows eI (dI hs) ∧ Sel (dC xs) (dI hs) ∧ (dI hs).length ≤ 1000000000, .d (.sl (rows eI (bndR (dC xs) (dI hs)))))
  | _ => none
theorem bnd_at {l : List Cm} {ns : List Int} {i : Nat} {x : Int} {c : Cm} (h : ns[i]? = some x) (hc : l[x.toNat]? = some c) : (ns.take (i + 1)).filter (fun n => (l.getD n.toNat default).par.any (outB ns)) = (ns.take i).filter (fun n => (l.getD n.toNat default).par.any (outB ns)) ++ if c.par.any (outB ns) = true then [x] else [] := by
  rw [filter_snoc h]; simp only [getD_of hc]
/-- A selection has few numbers. -/
theorem Sel.len {l : List Cm} {ns : List Int} (h : Sel l ns) : ns.length ≤ l.length := by
  have : ns = lst l.length (mark ns) := sorted_ext h.inc (lst_sorted _ _) fun x => by
    rw [lst_mem]
    constructor
    · intro hx
      have := h.inr x hx
      exact ⟨x.toNat, by omega, by simp only [mark]; exact decide_eq_true (by rwa [show ((x.toNat : Nat) : Int) = x by omega]), by omega⟩
    · rintro ⟨k, _, h2, rfl⟩
      simpa [mark] using h2
  rw [this]; exact lst_len _ _

theorem boundary_meets : Meets Try.prog 27 (Spec.pure bndG) := by
 refine meets_fun (E_conFunc.at_ 37) Try.func27 rfl rfl rfl ?_
 intro args p r hg hp
 unfold bndG at hg
 split at hg
 ·rename_i xs ys
  simp only [Option.some.injEq, Prod.mk.injEq] at hg
  obtain ⟨rfl, rfl⟩ := hg
  obtain ⟨he, hf, hl, hs, hn⟩ := hp
  generalize dC xs = l at *
  generalize dI ys = ns at *
  subst he hf
  have hT : (E_conFunc).X = T := rfl
  have hx0 := And.intro @rect_eC (And.intro @dC_rows (And.intro @dI_rows @Try.results27))
  have hx := hx0
  refine ⟨by rfl, ?_⟩
  intro F W0 hnp hmk
  refine vc_seq_k fun N1 h1 => ?_
  refine u_reg ?_
  try refine lg_mk ?_
  refine u_bx ?_
  refine u_mv ?_
  refine u_al ?_
  refine lg_nil ?_
  refine h1 _ ?_; clear h1; try clear N1
  refine vc_seq_k fun N2 h2 => ?_
  refine vc_seq_k fun N3 h3 => ?_
  by_cases h0 : (selF l ns).1 = 0
  ·have hz := selF_zero h0
   have hsel := sel_of h0
   have hl60 := hsel.val.len
   have hnl := hsel.len
   have hx := And.intro @hz hx0
   refine u_reg ?_
   try refine lg_mk ?_
   refine u_mv ?_
   refine u_ld ?_
   have hc := call_rule (E := (E_conFunc.at_ 37)) (f := 45) (sp := Spec.pure selG) rfl
   have hs := @selG.eq_1
   refine u_cp (hq := by (first | (exact ⟨hl, ‹smallC l›, by omega⟩) | (first | trivial | omega | assumption | (unfold inI64; omega) | ((repeat' apply And.intro) <;> first | rfl | trivial | omega | assumption | (unfold inI64; omega)) | (simp; done) | (simp; omega)))) ?_
   refine u_al ?_
   refine u_st ?_
   refine lg_nil ?_
   have hx := hx0
   refine h3 _ ?_; clear h3; try clear N3
   refine vc_seq_k fun N4 h4 => ?_
   refine u_reg ?_
   try refine lg_mk ?_
   refine u_ld ?_
   refine u_bd ?_
   refine u_bn ?_
   refine lg_nil ?_
   refine h4 _ ?_; clear h4; try clear N4
   refine u_cond (fun hb5 => ?_) (fun hb5 => ?_)
   ·first | omega | exact absurd trivial hb5 | contradiction | (simp_all; done)
   ·refine vc_skip ?_
    try simp only [k_rules]
    refine h2 _ ?_; clear h2; try clear N2
    refine vc_seq_k fun N6 h6 => ?_
    refine u_reg ?_
    try refine lg_mk ?_
    refine u_mv ?_
    refine lg_nil ?_
    refine h6 _ ?_; clear h6; try clear N6
    refine vc_seq_k fun N7 h7 => ?_
    refine vc_seq_k fun N8 h8 => ?_
    refine u_reg ?_
    try refine lg_mk ?_
    refine u_ld ?_
    refine u_ln ?_
    refine u_mv ?_
    refine lg_nil ?_
    refine h8 _ ?_; clear h8; try clear N8
    refine vc_block ?_
    refine vc_loop_mk (σ := Nat) (fun s => (fun i => i ≤ ns.length) s)
     (fun s => (fun i => [(0, .d (.sl (rows eC l))), (3, .ptr 0 0 0), (5, .ptr 1 0 0), (7, .sl 2 0 ((ns.take i).filter fun n => (l.getD n.toNat default).par.any (outB ns)).length), (17, .d (.sl (rows eI ns))), (18, .d (.int .i64 (ns.length : Nat))), (19, .d (.int .i64 (i : Nat)))]) s)
     (fun s => (fun i => [some (.one 24 [.d (.sl (rows eI ns))]), some (.one 27 [.d (.int .i64 0), .d (.int .i64 0)]), some (.vec 3 1 (rows eI ((ns.take i).filter fun n => (l.getD n.toNat default).par.any (outB ns))))]) s) (fun s => (fun i => ns.length - i) s) hnp 0 ?_ [some 0, some 1, none] ?_ ?_
    ·dsimp only
     omega
    ·dsimp only
     refine ⟨by rfl, ?_, ?_⟩
     ·refine fin_ ?_
      exact cl_
     ·refine fin_ ?_
      exact cl_
    ·rintro i hinv N9 h9
     dsimp only at hinv ⊢
     have hi1 := hinv
     refine vc_seq_k fun N10 h10 => ?_
     refine u_reg ?_
     try refine lg_mk ?_
     refine u_bn ?_
     refine lg_nil ?_
     refine h10 _ ?_; clear h10; try clear N10
     refine vc_seq_k fun N11 h11 => ?_
     refine u_cond (fun hb12 => ?_) (fun hb12 => ?_)
     ·obtain ⟨x, hxe⟩ := getE (l := ns) (i := i) (by omega)
      have hxr := hsel.inr.at hxe
      obtain ⟨c, hce⟩ := getE (l := l) (i := x.toNat) (by omega)
      have hc3 := hsel.val.few hce
      have hba := bnd_at hxe hce
      have hfl := List.length_filter_le (fun n => (l.getD n.toNat default).par.any (outB ns)) (ns.take i)
      have htl := List.length_take_le i ns
      refine vc_skip ?_
      try simp only [k_rules]
      refine h11 _ ?_; clear h11; try clear N11
      refine vc_seq_k fun N13 h13 => ?_
      refine vc_block ?_
      refine vc_seq_k fun N14 h14 => ?_
      have hx := And.intro @hxe (And.intro @eI.eq_1 hx0)
      refine u_reg ?_
      try refine lg_mk ?_
      refine u_pt ?_
      refine u_ld ?_
      refine u_mv ?_
      refine lg_nil ?_
      have hx := hx0
      refine h14 _ ?_; clear h14; try clear N14
      refine vc_seq_k fun N15 h15 => ?_
      have hx := And.intro @hce (And.intro @eC.eq_1 hx0)
      refine u_reg ?_
      try refine lg_mk ?_
      refine u_mv ?_
      refine u_mv ?_
      refine u_pt ?_
      refine u_pt ?_
      refine u_ld ?_
      refine u_mf ?_
      have hc := call_rule (E := (E_conFunc.at_ 37)) (f := 46) (sp := Spec.pure conFuncG) rfl
      have hs := And.intro @conFuncG.eq_1 @conFuncG.eq_2
      refine u_cp ?_
      refine lg_nil ?_
      have hx := hx0
      refine h15 _ ?_; clear h15; try clear N15
      refine u_cond (fun hb16 => ?_) (fun hb16 => ?_)
      ·refine u_reg ?_
       try refine lg_mk ?_
       refine u_mv ?_
       refine u_mv ?_
       refine u_bs ?_
       refine u_ap ?_
       refine u_mv ?_
       refine lg_nil ?_
       refine h13 _ ?_; clear h13; try clear N13
       refine u_reg ?_
       try refine lg_mk ?_
       refine u_bn ?_
       refine u_mv ?_
       refine lg_nil ?_
       refine h9 _ ⟨i + 1, ?_, ?_, [some 0, some 1, some 4], ?_⟩
       ·dsimp only
        omega
       ·dsimp only
        omega
       ·dsimp only
        refine ⟨by rfl, ?_, ?_⟩
        ·refine fin_ ?_
         (repeat' apply And.intro) <;> (first | (first | rfl | trivial | (rw [hba, if_pos hb16]; simp [rows, eI]; done) | (rw [hba, if_pos hb16]; simp; done)) | (first | rfl | exact Or.inr rfl | exact Or.inl rfl | trivial | omega | assumption | (simp; done) | (simp; omega)))
        ·refine fin_ ?_
         (repeat' apply And.intro) <;> (first | (first | rfl | trivial | (rw [hba, if_pos hb16]; simp [rows, eI]; done) | (rw [hba, if_pos hb16]; simp; done)) | (first | rfl | exact Or.inr rfl | exact Or.inl rfl | trivial | omega | assumption | (simp; done) | (simp; omega)))
      ·refine vc_skip ?_
       try simp only [k_rules]
       refine h13 _ ?_; clear h13; try clear N13
       refine u_reg ?_
       try refine lg_mk ?_
       refine u_bn ?_
       refine u_mv ?_
       refine lg_nil ?_
       refine h9 _ ⟨i + 1, ?_, ?_, [some 0, some 1, some 2], ?_⟩
       ·dsimp only
        omega
       ·dsimp only
        omega
       ·dsimp only
        refine ⟨by rfl, ?_, ?_⟩
        ·refine fin_ ?_
         (repeat' apply And.intro) <;> (first | (first | rfl | trivial | (rw [hba, if_neg (by rw [hb16]; simp), List.append_nil]; done)) | (first | rfl | exact Or.inr rfl | exact Or.inl rfl | trivial | omega | assumption | (simp; done) | (simp; omega)))
        ·refine fin_ ?_
         (repeat' apply And.intro) <;> (first | (first | rfl | trivial | (rw [hba, if_neg (by rw [hb16]; simp), List.append_nil]; done)) | (first | rfl | exact Or.inr rfl | exact Or.inl rfl | trivial | omega | assumption | (simp; done) | (simp; omega)))
     ·refine vc_exit ?_
      simp only [k_rules, Nat.reduceEqDiff, reduceIte, eq_self]
      refine h7 _ ?_; clear h7; try clear N7
      refine vc_seq_k fun N17 h17 => ?_
      refine u_reg ?_
      try refine lg_mk ?_
      refine u_mv ?_
      refine u_bd ?_
      refine u_mv ?_
      refine u_st ?_
      refine lg_nil ?_
      refine h17 _ ?_; clear h17; try clear N17
      refine vc_ret ?_
      try simp only [k_rules]
      rw [if_pos h0, hz]
      have hi : i = ns.length := by omega
      subst hi
      have hr : bndR l ns = ((ns.take ns.length).filter fun n => (l.getD n.toNat default).par.any (outB ns)) := by rw [List.take_length]; rfl
      rw [hr]
      refine fin2_ ?_
      (repeat' apply And.intro) <;> (first | (first | rfl | exact Or.inl rfl | trivial | exact Nat.le_refl _ | (simp [rows_len]; done) | (rw [List.drop_zero, rows_take, List.take_length]; done) | (rw [rows_take, List.take_length]; done)) | (first | rfl | exact Or.inr rfl | exact Or.inl rfl | trivial | omega | assumption | (simp; done) | (simp; omega)))
  ·have hz : True := trivial
   have hx := And.intro @hz hx0
   refine u_reg ?_
   try refine lg_mk ?_
   refine u_mv ?_
   refine u_ld ?_
   have hc := call_rule (E := (E_conFunc.at_ 37)) (f := 45) (sp := Spec.pure selG) rfl
   have hs := @selG.eq_1
   refine u_cp (hq := by (first | (exact ⟨hl, ‹smallC l›, by omega⟩) | (first | trivial | omega | assumption | (unfold inI64; omega) | ((repeat' apply And.intro) <;> first | rfl | trivial | omega | assumption | (unfold inI64; omega)) | (simp; done) | (simp; omega)))) ?_
   refine u_al ?_
   refine u_st ?_
   refine lg_nil ?_
   have hx := hx0
   refine h3 _ ?_; clear h3; try clear N3
   refine vc_seq_k fun N18 h18 => ?_
   refine u_reg ?_
   try refine lg_mk ?_
   refine u_ld ?_
   refine u_bd ?_
   refine u_bn ?_
   refine lg_nil ?_
   refine h18 _ ?_; clear h18; try clear N18
   refine u_cond (fun hb19 => ?_) (fun hb19 => ?_)
   ·refine vc_seq_k fun N20 h20 => ?_
    refine u_reg ?_
    try refine lg_mk ?_
    refine u_ld ?_
    refine u_mv ?_
    refine u_st ?_
    refine lg_nil ?_
    refine h20 _ ?_; clear h20; try clear N20
    refine vc_ret ?_
    try simp only [k_rules]
    rw [if_neg h0]
    refine fin2_ ?_
    exact cl_
   ·first | omega | exact absurd trivial hb19 | contradiction | (simp_all; done)
 ·cases hg

def E_boundary : Env Try.prog := E_conFunc.add 27 (Spec.pure bndG) boundary_meets (by kernel_rfl)

theorem boundaryOf_meets : Meets Try.prog 31 (Spec.pure bndOfG) := by
 refine meets_fun (E_boundary.at_ 54) Try.func31 rfl rfl rfl ?_
 intro args p r hg hp
 unfold bndOfG at hg
 split at hg
 ·rename_i xs ys
  simp only [Option.some.injEq, Prod.mk.injEq] at hg
  obtain ⟨rfl, rfl⟩ := hg
  obtain ⟨he, hf, hsel, hn⟩ := hp
  generalize dC xs = l at *
  generalize dI ys = ns at *
  subst he hf
  have hl60 := hsel.val.len
  have hnl := hsel.len
  have hT : (E_boundary).X = T := rfl
  have hx0 := And.intro @rect_eC (And.intro @dC_rows (And.intro @dI_rows @Try.results31))
  have hx := hx0
  refine ⟨by rfl, ?_⟩
  intro F W0 hnp hmk
  refine vc_seq_k fun N1 h1 => ?_
  refine u_reg ?_
  try refine lg_mk ?_
  refine u_mv ?_
  refine lg_nil ?_
  refine h1 _ ?_; clear h1; try clear N1
  refine vc_seq_k fun N2 h2 => ?_
  refine u_reg ?_
  try refine lg_mk ?_
  refine u_mv ?_
  refine lg_nil ?_
  refine h2 _ ?_; clear h2; try clear N2
  refine vc_seq_k fun N3 h3 => ?_
  refine vc_seq_k fun N4 h4 => ?_
  refine u_reg ?_
  try refine lg_mk ?_
  refine u_mv ?_
  refine lg_nil ?_
  refine h4 _ ?_; clear h4; try clear N4
  refine vc_block ?_
  refine vc_loop_mk (σ := Nat) (fun s => (fun i => i ≤ ns.length) s)
   (fun s => (fun i => [(0, .d (.sl (rows eC l))), (1, .d (.sl (rows eI ns))), (5, .sl 0 0 ((ns.take i).filter fun n => (l.getD n.toNat default).par.any (outB ns)).length), (6, .d (.int .i64 (i : Nat)))]) s)
   (fun s => (fun i => [some (.vec 3 1 (rows eI ((ns.take i).filter fun n => (l.getD n.toNat default).par.any (outB ns))))]) s) (fun s => (fun i => ns.length - i) s) hnp 0 ?_ [none] ?_ ?_
  ·dsimp only
   omega
  ·dsimp only
   refine ⟨by rfl, ?_, ?_⟩
   ·refine fin_ ?_
    exact cl_
   ·refine fin_ ?_
    exact cl_
  ·rintro i hinv N5 h5
   dsimp only at hinv ⊢
   have hi1 := hinv
   refine vc_seq_k fun N6 h6 => ?_
   refine vc_seq_k fun N7 h7 => ?_
   refine u_reg ?_
   try refine lg_mk ?_
   refine u_mv ?_
   refine u_mv ?_
   refine u_ln ?_
   refine u_bn ?_
   refine lg_nil ?_
   refine h7 _ ?_; clear h7; try clear N7
   refine u_cond (fun hb8 => ?_) (fun hb8 => ?_)
   ·obtain ⟨x, hxe⟩ := getE (l := ns) (i := i) (by omega)
    have hxr := hsel.inr.at hxe
    obtain ⟨c, hce⟩ := getE (l := l) (i := x.toNat) (by omega)
    have hc3 := hsel.val.few hce
    have hba := bnd_at hxe hce
    have hfl := List.length_filter_le (fun n => (l.getD n.toNat default).par.any (outB ns)) (ns.take i)
    have htl := List.length_take_le i ns
    refine vc_skip ?_
    try simp only [k_rules]
    refine h6 _ ?_; clear h6; try clear N6
    refine vc_seq_k fun N9 h9 => ?_
    refine vc_block ?_
    refine vc_seq_k fun N10 h10 => ?_
    refine u_reg ?_
    try refine lg_mk ?_
    refine u_mv ?_
    refine lg_nil ?_
    refine h10 _ ?_; clear h10; try clear N10
    refine vc_seq_k fun N11 h11 => ?_
    refine vc_seq_k fun N12 h12 => ?_
    refine u_reg ?_
    try refine lg_mk ?_
    refine u_mv ?_
    refine lg_nil ?_
    refine h12 _ ?_; clear h12; try clear N12
    refine vc_block ?_
    refine vc_loop_mk (σ := Nat) (fun s => (fun k => k ≤ c.par.length) s)
     (fun s => (fun k => [(0, .d (.sl (rows eC l))), (1, .d (.sl (rows eI ns))), (5, .sl 0 0 ((ns.take i).filter fun n => (l.getD n.toNat default).par.any (outB ns)).length), (6, .d (.int .i64 (i : Nat))), (7, .d (.bool ((c.par.take k).any (outB ns)))), (8, .d (.int .i64 (k : Nat)))]) s)
     (fun s => (fun k => [some (.vec 3 1 (rows eI ((ns.take i).filter fun n => (l.getD n.toNat default).par.any (outB ns))))]) s) (fun s => (fun k => c.par.length - k) s) hnp 0 ?_ [some 0] ?_ ?_
    ·dsimp only
     omega
    ·dsimp only
     refine ⟨by rfl, ?_, ?_⟩
     ·refine fin_ ?_
      exact cl_
     ·refine fin_ ?_
      exact cl_
    ·rintro k hinv N13 h13
     dsimp only at hinv ⊢
     have hk1 := hinv
     refine vc_seq_k fun N14 h14 => ?_
     refine vc_seq_k fun N15 h15 => ?_
     have hx := And.intro @hxe (And.intro @hce (And.intro @eI.eq_1 (And.intro @eC.eq_1 hx0)))
     refine u_reg ?_
     try refine lg_mk ?_
     refine u_mv ?_
     refine u_mv ?_
     refine u_mv ?_
     refine u_mv ?_
     refine u_pt ?_
     refine u_ld ?_
     refine u_pt ?_
     refine u_pt ?_
     refine u_ld ?_
     refine u_ln ?_
     refine u_bn ?_
     refine lg_nil ?_
     have hx := hx0
     refine h15 _ ?_; clear h15; try clear N15
     refine u_cond (fun hb16 => ?_) (fun hb16 => ?_)
     ·obtain ⟨p, hpe⟩ := getE (l := c.par) (i := k) (by omega)
      have hap := any_snoc hpe (outB ns)
      refine vc_skip ?_
      try simp only [k_rules]
      refine h14 _ ?_; clear h14; try clear N14
      refine vc_seq_k fun N17 h17 => ?_
      refine vc_block ?_
      have hx := And.intro @hxe (And.intro @hce (And.intro @hpe (And.intro @eI.eq_1 (And.intro @eC.eq_1 hx0))))
      refine u_reg ?_
      try refine lg_mk ?_
      refine u_mv ?_
      refine u_mv ?_
      refine g_mv ?_
      refine g_mv ?_
      refine g_mv ?_
      refine g_mv ?_
      refine g_pt ?_
      refine g_ld ?_
      refine g_pt ?_
      refine g_pt ?_
      refine g_ld ?_
      refine g_mv ?_
      refine g_pt ?_
      refine g_ld ?_
      have hc := call_rule (E := (E_boundary.at_ 54)) (f := 21) (sp := Spec.pure hasG) rfl
      have hs := @hasG.eq_1
      refine g_cp ?_
      refine g_un ?_
      refine u_pk ?_
      refine u_mv ?_
      refine lg_nil ?_
      have hx := hx0
      refine h17 _ ?_; clear h17; try clear N17
      refine u_reg ?_
      try refine lg_mk ?_
      refine u_mv ?_
      refine u_bn ?_
      refine u_mv ?_
      refine lg_nil ?_
      refine h13 _ ⟨k + 1, ?_, ?_, [some 0], ?_⟩
      ·dsimp only
       omega
      ·dsimp only
       omega
      ·dsimp only
       refine ⟨by rfl, ?_, ?_⟩
       ·refine fin_ ?_
        (repeat' apply And.intro) <;> (first | (first | rfl | trivial | (rw [hap]; rfl) | (rw [hap]; exact Or.inl rfl)) | (first | rfl | exact Or.inr rfl | exact Or.inl rfl | trivial | omega | assumption | (simp; done) | (simp; omega)))
       ·refine fin_ ?_
        (repeat' apply And.intro) <;> (first | (first | rfl | trivial | (rw [hap]; rfl) | (rw [hap]; exact Or.inl rfl)) | (first | rfl | exact Or.inr rfl | exact Or.inl rfl | trivial | omega | assumption | (simp; done) | (simp; omega)))
     ·have hk : k = c.par.length := by omega
      subst hk
      rw [List.take_length] at *
      refine vc_exit ?_
      simp only [k_rules, Nat.reduceEqDiff, reduceIte, eq_self]
      refine h11 _ ?_; clear h11; try clear N11
      refine vc_seq_k fun N18 h18 => ?_
      refine u_reg ?_
      try refine lg_mk ?_
      refine u_mv ?_
      refine lg_nil ?_
      refine h18 _ ?_; clear h18; try clear N18
      refine u_cond (fun hb19 => ?_) (fun hb19 => ?_)
      ·have hx := And.intro @hxe (And.intro @eI.eq_1 hx0)
       refine u_reg ?_
       try refine lg_mk ?_
       refine u_mv ?_
       refine u_mv ?_
       refine u_mv ?_
       refine u_pt ?_
       refine u_ld ?_
       refine u_bs ?_
       refine u_ap ?_
       refine u_mv ?_
       refine lg_nil ?_
       have hx := hx0
       refine h9 _ ?_; clear h9; try clear N9
       refine u_reg ?_
       try refine lg_mk ?_
       refine u_mv ?_
       refine u_bn ?_
       refine u_mv ?_
       refine lg_nil ?_
       refine h5 _ ⟨i + 1, ?_, ?_, [some 2], ?_⟩
       ·dsimp only
        omega
       ·dsimp only
        omega
       ·dsimp only
        refine ⟨by rfl, ?_, ?_⟩
        ·refine fin_ ?_
         (repeat' apply And.intro) <;> (first | (first | rfl | trivial | (rw [hba, if_pos hb19]; simp [rows, eI]; done) | (rw [hba, if_pos hb19]; simp; done)) | (first | rfl | exact Or.inr rfl | exact Or.inl rfl | trivial | omega | assumption | (simp; done) | (simp; omega)))
        ·refine fin_ ?_
         (repeat' apply And.intro) <;> (first | (first | rfl | trivial | (rw [hba, if_pos hb19]; simp [rows, eI]; done) | (rw [hba, if_pos hb19]; simp; done)) | (first | rfl | exact Or.inr rfl | exact Or.inl rfl | trivial | omega | assumption | (simp; done) | (simp; omega)))
      ·refine vc_skip ?_
       try simp only [k_rules]
       refine h9 _ ?_; clear h9; try clear N9
       refine u_reg ?_
       try refine lg_mk ?_
       refine u_mv ?_
       refine u_bn ?_
       refine u_mv ?_
       refine lg_nil ?_
       refine h5 _ ⟨i + 1, ?_, ?_, [some 0], ?_⟩
       ·dsimp only
        omega
       ·dsimp only
        omega
       ·dsimp only
        refine ⟨by rfl, ?_, ?_⟩
        ·refine fin_ ?_
         (repeat' apply And.intro) <;> (first | (first | rfl | trivial | (rw [hba, if_neg (by rw [hb19]; simp), List.append_nil]; done)) | (first | rfl | exact Or.inr rfl | exact Or.inl rfl | trivial | omega | assumption | (simp; done) | (simp; omega)))
        ·refine fin_ ?_
         (repeat' apply And.intro) <;> (first | (first | rfl | trivial | (rw [hba, if_neg (by rw [hb19]; simp), List.append_nil]; done)) | (first | rfl | exact Or.inr rfl | exact Or.inl rfl | trivial | omega | assumption | (simp; done) | (simp; omega)))
   ·refine vc_exit ?_
    simp only [k_rules, Nat.reduceEqDiff, reduceIte, eq_self]
    refine h3 _ ?_; clear h3; try clear N3
    refine vc_seq_k fun N20 h20 => ?_
    refine u_reg ?_
    try refine lg_mk ?_
    refine u_mv ?_
    refine u_mv ?_
    refine lg_nil ?_
    refine h20 _ ?_; clear h20; try clear N20
    refine vc_ret ?_
    try simp only [k_rules]
    have hi : i = ns.length := by omega
    subst hi
    have hr : bndR l ns = ((ns.take ns.length).filter fun n => (l.getD n.toNat default).par.any (outB ns)) := by rw [List.take_length]; rfl
    rw [hr]
    refine fin2_ ?_
    (repeat' apply And.intro) <;> (first | (first | rfl | exact Or.inl rfl | trivial | exact Nat.le_refl _ | (simp [rows_len]; done) | (rw [List.drop_zero, rows_take, List.take_length]; done) | (rw [rows_take, List.take_length]; done)) | (first | rfl | exact Or.inr rfl | exact Or.inl rfl | trivial | omega | assumption | (simp; done) | (simp; omega)))
 ·cases hg

def E_boundaryOf : Env Try.prog := E_boundary.add 31 (Spec.pure bndOfG) boundaryOf_meets (by kernel_rfl)
end Go.Proofs.Ytaoifpmifpmhmaa
