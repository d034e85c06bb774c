/- Walks, printed by wip/gen/walk.py. -/
import Derived.Test.YtjpkgmmmmcgmeaaT9
import Derived.Test.YtjpkgmmmmcgmeaaV6
import Derived.Test.YtjpkgmmmmcgmeaaV5
set_option linter.all false
set_option maxRecDepth 100000
set_option maxHeartbeats 4000000
namespace Go.Proofs.Ytjpkgmmmmcgmeaa
open Go Go.Vc Go.RowKit
theorem lt_succ2 {l : List Int} {i : Nat} (h : ∀ j, j < i → 0 < j → l.getD (j - 1) 0 < l.getD j 0) (hi : 0 < i → l.getD (i - 1) 0 < l.getD i 0) : ∀ j, j < i + 1 → 0 < j → l.getD (j - 1) 0 < l.getD j 0 := lt_succ3 h hi
def sucRG : List AV → Option (Prop × AV)
  | [.d (.sl xs), .d (.int .i64 n)] => some (xs = rows eM (dM xs) ∧ (dM xs).length ≤ 9223372036854775807 ∧ smallM (dM xs) ∧ okM (dM xs) ∧ rgK n = true, .d (.sl (rows eI (sucK (dM xs) n))))
  | _ => none
def sucC (L : List Mk) (n : Int) (k : Nat) : Bool := (decide ((k : Int) = n) || rcK L n.toNat k) && !goneK L k
def divRG : List AV → Option (Prop × AV)
  | [.d (.sl xs)] => some (xs = rows eM (dM xs) ∧ (dM xs).length ≤ 40 ∧ smallM (dM xs), .d (.sl (rows eI (dvI (dM xs) (dM xs).length))))
  | _ => none
def orpRG : List AV → Option (Prop × AV)
  | [.d (.sl xs), .d (.sl ys)] => some (xs = rows eM (dM xs) ∧ (dM xs).length ≤ 9223372036854775807 ∧ ys = rows eC (dC ys) ∧ Valid (dC ys), .d (.sl (rows eI (orpK (dM xs) (dC ys)))))
  | _ => none
def mksG : List AV → Option (Prop × AV)
  | [.d (.sl xs), .d (.sl ys)] => some (xs = rows eM (dM xs) ∧ ys = rows eM (dM ys) ∧ (dM xs).length ≤ 9223372036854775807 ∧ (dM ys).length ≤ 9223372036854775807 ∧ smallM (dM xs) ∧ smallM (dM ys), .d (.bool (decide (dM xs = dM ys))))
  | _ => none
def mrgG : List AV → Option (Prop × AV)
  | [.d (.sl xs), .d (.sl ys)] => some (xs = rows eM (dM xs) ∧ ys = rows eM (dM ys) ∧ (dM xs).length ≤ 40 ∧ (dM ys).length ≤ 40 ∧ smallM (dM xs) ∧ smallM (dM ys), .d (.sl (rows eM (mrgK (dM xs) (dM ys)))))
  | _ => none
theorem chkR_of {m : Mk} (h : (rgK m.old && (m.nw.take m.nw.length).all rgK) = true) : chkR m = true := by rw [List.take_length] at h; exact h
theorem chkR_no {m : Mk} (h : (rgK m.old && (m.nw.take m.nw.length).all rgK) = false) : chkR m = false := by rw [List.take_length] at h; exact h
theorem all_snoc3 {l : List Int} {i : Nat} {x : Int} (h : l[i]? = some x) (P : Int → Bool) : (l.take (i + 1)).all P = ((l.take i).all P && P x) := by
  rw [List.take_add_one, h, List.all_append]; simp
theorem dvIn_len (L : List Mk) (i k : Nat) (acc : List Int) : (dvIn L i k acc).length ≤ acc.length + 1 := by
  unfold dvIn
  split
  · split
    · exact ins_len
    · omega
  · omega
theorem dvK_len (L : List Mk) (i : Nat) : ∀ (k : Nat) (acc : List Int), (dvK L i k acc).length ≤ acc.length + k
  | 0, acc => by unfold dvK; omega
  | k + 1, acc => by unfold dvK; have := dvIn_len L i k (dvK L i k acc); have := dvK_len L i k acc; omega
theorem dvI_len (L : List Mk) : ∀ (i : Nat), i ≤ 41 → (dvI L i).length ≤ 41 * i
  | 0, _ => by simp [dvI]
  | i + 1, h => by unfold dvI; have := dvK_len L i i (dvI L i); have := dvI_len L i (by omega); omega
theorem dvK_yes {L : List Mk} {i k : Nat} {acc : List Int} {a b : Mk} (ha : L[i]? = some a) (hb : L[k]? = some b) (h1 : a.old = b.old) (h2 : 0 < a.nw.length) (h3 : 0 < b.nw.length) : dvK L i (k + 1) acc = ins (dvK L i k acc) a.old := by
  show dvIn L i k _ = _
  unfold dvIn; rw [ha, hb]; dsimp only; rw [if_pos ⟨h1, List.ne_nil_of_length_pos h2, List.ne_nil_of_length_pos h3⟩]
theorem dvK_no {L : List Mk} {i k : Nat} {acc : List Int} {a b : Mk} (ha : L[i]? = some a) (hb : L[k]? = some b) (h : ¬(a.old = b.old ∧ 0 < a.nw.length ∧ 0 < b.nw.length)) : dvK L i (k + 1) acc = dvK L i k acc := by
  show dvIn L i k _ = _
  unfold dvIn; rw [ha, hb]; dsimp only; rw [if_neg]
  rintro ⟨h1, h2, h3⟩
  exact h ⟨h1, List.length_pos_iff.2 h2, List.length_pos_iff.2 h3⟩
def oldP (L : List Mk) (C : List Cm) (i k : Nat) : Bool := (List.range k).any fun k => ancB C i k && goneK L k
theorem oldP_succ (L : List Mk) (C : List Cm) (i k : Nat) : oldP L C i (k + 1) = (oldP L C i k || (ancB C i k && goneK L k)) := by
  unfold oldP; rw [List.range_succ, List.any_append]; simp
theorem mrgK_nilr (a : List Mk) : mrgK a [] = a := by cases a <;> (unfold mrgK; rfl)
theorem mrgK_nill (b : List Mk) : mrgK [] b = b := by unfold mrgK; rfl
theorem mrgK_l {a b : List Mk} {i k : Nat} {x : Mk} (hx : a[i]? = some x) (hk : b.length ≤ k) : mrgK (a.drop i) (b.drop k) = x :: mrgK (a.drop (i + 1)) (b.drop k) := by
  obtain ⟨h1, e1⟩ := List.getElem?_eq_some_iff.1 hx
  rw [List.drop_eq_nil_of_le hk, mrgK_nilr, mrgK_nilr, List.drop_eq_getElem_cons h1, e1]
theorem mrgK_r {a b : List Mk} {i k : Nat} {y : Mk} (hy : b[k]? = some y) (hi : a.length ≤ i) : mrgK (a.drop i) (b.drop k) = y :: mrgK (a.drop i) (b.drop (k + 1)) := by
  obtain ⟨h1, e1⟩ := List.getElem?_eq_some_iff.1 hy
  rw [List.drop_eq_nil_of_le hi, mrgK_nill, mrgK_nill, List.drop_eq_getElem_cons h1, e1]
theorem mrgK_lt {a b : List Mk} {i k : Nat} {x y : Mk} (hx : a[i]? = some x) (hy : b[k]? = some y) (h : cmpK x y < 0) : mrgK (a.drop i) (b.drop k) = x :: mrgK (a.drop (i + 1)) (b.drop k) := by
  obtain ⟨h1, e1⟩ := List.getElem?_eq_some_iff.1 hx
  obtain ⟨h2, e2⟩ := List.getElem?_eq_some_iff.1 hy
  rw [List.drop_eq_getElem_cons h1, List.drop_eq_getElem_cons h2, e1, e2]
  conv => lhs; unfold mrgK
  rw [if_pos h]
theorem mrgK_gt {a b : List Mk} {i k : Nat} {x y : Mk} (hx : a[i]? = some x) (hy : b[k]? = some y) (h : ¬cmpK x y < 0) (h2 : cmpK y x < 0) : mrgK (a.drop i) (b.drop k) = y :: mrgK (a.drop i) (b.drop (k + 1)) := by
  obtain ⟨h1, e1⟩ := List.getElem?_eq_some_iff.1 hx
  obtain ⟨h3, e2⟩ := List.getElem?_eq_some_iff.1 hy
  rw [List.drop_eq_getElem_cons h1, List.drop_eq_getElem_cons h3, e1, e2]
  conv => lhs; unfold mrgK
  rw [if_neg h, if_pos h2]
theorem mrgK_eq {a b : List Mk} {i k : Nat} {x y : Mk} (hx : a[i]? = some x) (hy : b[k]? = some y) (h : ¬cmpK x y < 0) (h2 : ¬cmpK y x < 0) : mrgK (a.drop i) (b.drop k) = y :: mrgK (a.drop (i + 1)) (b.drop (k + 1)) := by
  obtain ⟨h1, e1⟩ := List.getElem?_eq_some_iff.1 hx
  obtain ⟨h3, e2⟩ := List.getElem?_eq_some_iff.1 hy
  rw [List.drop_eq_getElem_cons h1, List.drop_eq_getElem_cons h3, e1, e2]
  conv => lhs; unfold mrgK
  rw [if_neg h, if_neg h2]
theorem eM_snoc (l : List Mk) (m : Mk) : rows eM l ++ [[.int .i64 m.old, .sl (rows eI m.nw)]] = rows eM (l ++ [m]) := by simp [rows, eM]

theorem incR_meets : Meets Try.prog 37 (Spec.pure incTG) := by
 refine meets_fun (E_rep.at_ 20) Try.func37 rfl rfl rfl ?_
 intro args p r hg hp
 unfold incTG at hg
 split at hg
 ·rename_i xs
  simp only [Option.some.injEq, Prod.mk.injEq] at hg
  obtain ⟨rfl, rfl⟩ := hg
  obtain ⟨he, hl⟩ := hp
  generalize dI xs = l at *
  subst he
  have hT : (E_rep).X = T := rfl
  have hx0 := And.intro @dec_t (And.intro @dec_f @Try.results37)
  have hx := hx0
  refine ⟨by rfl, ?_⟩
  intro F W0 hnp hmk
  refine vc_seq_k fun N1 h1 => ?_
  refine u_reg ?_
  try refine lg_mk ?_
  refine u_mv ?_
  refine lg_nil ?_
  refine h1 _ ?_; clear h1; try clear N1
  refine vc_seq_k fun N2 h2 => ?_
  refine vc_seq_k fun N3 h3 => ?_
  refine u_reg ?_
  try refine lg_mk ?_
  refine u_mv ?_
  refine lg_nil ?_
  refine h3 _ ?_; clear h3; try clear N3
  refine vc_block ?_
  refine vc_loop_mk (σ := Nat) (fun s => (fun i => 1 ≤ i ∧ ∀ j, j < i → 0 < j → l.getD (j - 1) 0 < l.getD j 0) s)
   (fun s => (fun i => [(0, .d (.sl (rows eI l))), (3, .d (.int .i64 (i : Nat)))]) s)
   (fun s => (fun i => []) s) (fun s => (fun i => l.length - i) s) hnp 1 ?_ [] ?_ ?_
  ·dsimp only
   exact ⟨by omega, fun j hj h0 => by omega⟩
  ·dsimp only
   refine ⟨by rfl, ?_, ?_⟩
   ·refine fin_ ?_
    exact cl_
   ·refine fin_ ?_
    exact cl_
  ·rintro i hinv N4 h4
   dsimp only at hinv ⊢
   obtain ⟨i1, i2⟩ := hinv
   refine vc_seq_k fun N5 h5 => ?_
   refine vc_seq_k fun N6 h6 => ?_
   refine u_reg ?_
   try refine lg_mk ?_
   refine u_mv ?_
   refine u_mv ?_
   refine u_ln ?_
   refine u_bn ?_
   refine lg_nil ?_
   refine h6 _ ?_; clear h6; try clear N6
   refine u_cond (fun hb7 => ?_) (fun hb7 => ?_)
   ·obtain ⟨x, hxe⟩ := getE (l := l) (i := i) (by omega)
    obtain ⟨y, hye⟩ := getE (l := l) (i := i - 1) (by omega)
    have hpm : ((i : Int) - 1).toNat = i - 1 := by omega
    have hxd : l.getD i 0 = x := getD_at hxe
    have hyd : l.getD (i - 1) 0 = y := getD_at hye
    refine vc_skip ?_
    try simp only [k_rules]
    refine h5 _ ?_; clear h5; try clear N5
    refine vc_seq_k fun N8 h8 => ?_
    refine vc_block ?_
    refine vc_seq_k fun N9 h9 => ?_
    have hx := And.intro @hxe (And.intro @hye (And.intro @hpm (And.intro @eI.eq_1 hx0)))
    refine u_reg ?_
    try refine lg_mk ?_
    refine u_mv ?_
    refine u_mv ?_
    refine u_pt ?_
    refine u_ld ?_
    refine u_mv ?_
    refine u_mv ?_
    refine u_bn ?_
    refine u_pt ?_
    refine u_ld ?_
    refine u_bn ?_
    refine lg_nil ?_
    have hx := hx0
    refine h9 _ ?_; clear h9; try clear N9
    refine u_cond (fun hb10 => ?_) (fun hb10 => ?_)
    ·refine vc_seq_k fun N11 h11 => ?_
     refine u_reg ?_
     try refine lg_mk ?_
     refine u_mv ?_
     refine lg_nil ?_
     refine h11 _ ?_; clear h11; try clear N11
     refine vc_ret ?_
     try simp only [k_rules]
     have hr : incB l = false := incB_no (i := i) (by omega) (by omega) (by rw [hxd, hyd]; omega)
     rw [hr]
     refine fin2_ ?_
     exact cl_
    ·refine vc_skip ?_
     try simp only [k_rules]
     refine h8 _ ?_; clear h8; try clear N8
     refine u_reg ?_
     try refine lg_mk ?_
     refine u_mv ?_
     refine u_bn ?_
     refine u_mv ?_
     refine lg_nil ?_
     refine h4 _ ⟨i + 1, ?_, ?_, [], ?_⟩
     ·dsimp only
      exact ⟨by omega, lt_succ2 i2 (fun h0 => by rw [hxd, hyd]; omega)⟩
     ·dsimp only
      omega
     ·dsimp only
      refine ⟨by rfl, ?_, ?_⟩
      ·refine fin_ ?_
       exact cl_
      ·refine fin_ ?_
       exact cl_
   ·refine vc_exit ?_
    simp only [k_rules, Nat.reduceEqDiff, reduceIte, eq_self]
    refine h2 _ ?_; clear h2; try clear N2
    refine vc_seq_k fun N12 h12 => ?_
    refine u_reg ?_
    try refine lg_mk ?_
    refine u_mv ?_
    refine lg_nil ?_
    refine h12 _ ?_; clear h12; try clear N12
    refine vc_ret ?_
    try simp only [k_rules]
    have hr : incB l = true := incB_yes (fun j hj h0 => i2 j (by omega) h0)
    rw [hr]
    refine fin2_ ?_
    exact cl_
 ·cases hg

def E_incR : Env Try.prog := E_rep.add 37 (Spec.pure incTG) incR_meets (by kernel_rfl)

theorem cycR_meets : Meets Try.prog 14 (Spec.pure cycG) := by
 refine meets_fun (E_incR.at_ 20) Try.func14 rfl rfl rfl ?_
 intro args p r hg hp
 unfold cycG at hg
 split at hg
 ·rename_i xs
  simp only [Option.some.injEq, Prod.mk.injEq] at hg
  obtain ⟨rfl, rfl⟩ := hg
  obtain ⟨he, hl, hsm, hok⟩ := hp
  generalize dM xs = l at *
  subst he
  have hT : (E_incR).X = T := rfl
  have hx0 := And.intro @matB_len (And.intro @vec_len (And.intro @dM_rows @Try.results14))
  have hx := hx0
  refine ⟨by rfl, ?_⟩
  intro F W0 hnp hmk
  refine vc_seq_k fun N1 h1 => ?_
  refine u_reg ?_
  try refine lg_mk ?_
  refine u_mv ?_
  refine lg_nil ?_
  refine h1 _ ?_; clear h1; try clear N1
  refine vc_seq_k fun N2 h2 => ?_
  refine u_reg ?_
  try refine lg_mk ?_
  refine u_mv ?_
  have hc := call_rule (E := (E_incR.at_ 20)) (f := 39) (sp := Spec.pure repG) rfl
  have hs := @repG.eq_1
  refine u_hp (hq := by (first | (exact ⟨hl, hsm, hok⟩) | exact sd_)) ?_
  refine u_mv ?_
  refine lg_nil ?_
  refine h2 _ ?_; clear h2; try clear N2
  refine vc_seq_k fun N3 h3 => ?_
  refine vc_seq_k fun N4 h4 => ?_
  refine u_reg ?_
  try refine lg_mk ?_
  refine u_mv ?_
  refine lg_nil ?_
  refine h4 _ ?_; clear h4; try clear N4
  refine vc_block ?_
  refine vc_loop_mk (σ := Nat) (fun s => (fun i => i ≤ 60 ∧ ∀ j, j < i → rcK l j j = false) s)
   (fun s => (fun i => [(3, .d (.sl (rows (eL eB) (matB (rcK l) 60)))), (4, .d (.int .i64 (i : Nat)))]) s)
   (fun s => (fun i => []) s) (fun s => (fun i => 60 - i) s) hnp 0 ?_ [] ?_ ?_
  ·dsimp only
   exact ⟨by omega, fun j hj => by omega⟩
  ·dsimp only
   refine ⟨by rfl, ?_, ?_⟩
   ·refine fin_ ?_
    exact cl_
   ·refine fin_ ?_
    exact cl_
  ·rintro i hinv N5 h5
   dsimp only at hinv ⊢
   obtain ⟨i1, i2⟩ := hinv
   refine vc_seq_k fun N6 h6 => ?_
   refine vc_seq_k fun N7 h7 => ?_
   refine u_reg ?_
   try refine lg_mk ?_
   refine u_mv ?_
   refine u_mv ?_
   refine u_ln ?_
   refine u_bn ?_
   refine lg_nil ?_
   refine h7 _ ?_; clear h7; try clear N7
   refine u_cond (fun hb8 => ?_) (fun hb8 => ?_)
   ·have hrow := matB_get (F := rcK l) (n := 60) (i := i) (by omega)
    have hgk := vec_get (n := 60) (f := rcK l i) (k := i) (by omega)
    refine vc_skip ?_
    try simp only [k_rules]
    refine h6 _ ?_; clear h6; try clear N6
    refine vc_seq_k fun N9 h9 => ?_
    refine vc_block ?_
    refine vc_seq_k fun N10 h10 => ?_
    have hx := And.intro @hrow (And.intro @hgk (And.intro @eL.eq_1 (And.intro @eB.eq_1 hx0)))
    refine u_reg ?_
    try refine lg_mk ?_
    refine u_mv ?_
    refine u_mv ?_
    refine u_pt ?_
    refine u_ld ?_
    refine u_mv ?_
    refine u_pt ?_
    refine u_ld ?_
    refine lg_nil ?_
    have hx := hx0
    refine h10 _ ?_; clear h10; try clear N10
    refine u_cond (fun hb11 => ?_) (fun hb11 => ?_)
    ·refine vc_seq_k fun N12 h12 => ?_
     refine u_reg ?_
     try refine lg_mk ?_
     refine u_mv ?_
     refine lg_nil ?_
     refine h12 _ ?_; clear h12; try clear N12
     refine vc_ret ?_
     try simp only [k_rules]
     rw [cyc_at (L := l) (i := i) (by omega) (by have := hb11; simpa using this)]
     refine fin2_ ?_
     exact cl_
    ·refine vc_skip ?_
     try simp only [k_rules]
     refine h9 _ ?_; clear h9; try clear N9
     refine u_reg ?_
     try refine lg_mk ?_
     refine u_mv ?_
     refine u_bn ?_
     refine u_mv ?_
     refine lg_nil ?_
     refine h5 _ ⟨i + 1, ?_, ?_, [], ?_⟩
     ·dsimp only
      refine ⟨by omega, fun j hj => ?_⟩
      by_cases e : j = i
      ·subst e; have := hb11; simpa using this
      ·exact i2 j (by omega)
     ·dsimp only
      omega
     ·dsimp only
      refine ⟨by rfl, ?_, ?_⟩
      ·refine fin_ ?_
       exact cl_
      ·refine fin_ ?_
       exact cl_
   ·refine vc_exit ?_
    simp only [k_rules, Nat.reduceEqDiff, reduceIte, eq_self]
    refine h3 _ ?_; clear h3; try clear N3
    refine vc_seq_k fun N13 h13 => ?_
    refine u_reg ?_
    try refine lg_mk ?_
    refine u_mv ?_
    refine lg_nil ?_
    refine h13 _ ?_; clear h13; try clear N13
    refine vc_ret ?_
    try simp only [k_rules]
    rw [cyc_no (L := l) (fun j hj => i2 j (by omega))]
    refine fin2_ ?_
    exact cl_
 ·cases hg

def E_cycR : Env Try.prog := E_incR.add 14 (Spec.pure cycG) cycR_meets (by kernel_rfl)

theorem mkFR_meets : Meets Try.prog 11 (Spec.pure valKG) := by
 refine meets_fun (E_cycR.at_ 78) Try.func11 rfl rfl rfl ?_
 intro args p r hg hp
 unfold valKG at hg
 split at hg
 ·rename_i xs
  simp only [Option.some.injEq, Prod.mk.injEq] at hg
  obtain ⟨rfl, rfl⟩ := hg
  obtain ⟨he, hl, hsm⟩ := hp
  generalize dM xs = l at *
  subst he
  have hT : (E_cycR).X = T := rfl
  have hx0 := And.intro @mk_eta (And.intro @rect_eM (And.intro @dI_rows (And.intro @dM_rows (And.intro @dec_t (And.intro @dec_f @Try.results11)))))
  have hx := hx0
  refine ⟨by rfl, ?_⟩
  intro F W0 hnp hmk
  refine vc_seq_k fun N1 h1 => ?_
  refine u_reg ?_
  try refine lg_mk ?_
  refine u_al ?_
  refine lg_nil ?_
  refine h1 _ ?_; clear h1; try clear N1
  refine vc_seq_k fun N2 h2 => ?_
  refine vc_seq_k fun N3 h3 => ?_
  refine u_reg ?_
  try refine lg_mk ?_
  refine u_mv ?_
  refine u_ln ?_
  refine u_bn ?_
  refine lg_nil ?_
  refine h3 _ ?_; clear h3; try clear N3
  refine u_cond (fun hb4 => ?_) (fun hb4 => ?_)
  ·refine vc_seq_k fun N5 h5 => ?_
   refine u_reg ?_
   try refine lg_mk ?_
   have hc := call_rule (E := (E_cycR.at_ 78)) (f := 12) (sp := Spec.pure faultG) rfl
   have hs := @faultG.eq_1
   refine u_cp ?_
   refine u_st ?_
   refine lg_nil ?_
   refine h5 _ ?_; clear h5; try clear N5
   refine vc_ret ?_
   try simp only [k_rules]
   rw [mkF_big (by have := hb4; omega)]
   refine fin2_ ?_
   exact cl_
  ·refine vc_skip ?_
   try simp only [k_rules]
   refine h2 _ ?_; clear h2; try clear N2
   refine vc_seq_k fun N6 h6 => ?_
   refine vc_seq_k fun N7 h7 => ?_
   refine u_reg ?_
   try refine lg_mk ?_
   refine u_mv ?_
   refine lg_nil ?_
   refine h7 _ ?_; clear h7; try clear N7
   refine vc_block ?_
   refine vc_loop_mk (σ := Nat) (fun s => (fun i => i ≤ l.length ∧ ∀ j, j < i → (mkC l j).1 = 0) s)
    (fun s => (fun i => [(0, .d (.sl (rows eM l))), (2, .ptr 0 0 0), (3, .d (.int .i64 (i : Nat)))]) s)
    (fun s => (fun i => [some (.one 25 [.d (.int .i64 0), .d (.int .i64 0)])]) s) (fun s => (fun i => l.length - i) s) hnp 0 ?_ [some 0] ?_ ?_
   ·dsimp only
    exact ⟨by omega, fun j hj => by omega⟩
   ·dsimp only
    refine ⟨by rfl, ?_, ?_⟩
    ·refine fin_ ?_
     exact cl_
    ·refine fin_ ?_
     exact cl_
   ·rintro i hinv N8 h8
    dsimp only at hinv ⊢
    obtain ⟨i1, i2⟩ := hinv
    refine vc_seq_k fun N9 h9 => ?_
    refine vc_seq_k fun N10 h10 => ?_
    refine u_reg ?_
    try refine lg_mk ?_
    refine u_mv ?_
    refine u_mv ?_
    refine u_ln ?_
    refine u_bn ?_
    refine lg_nil ?_
    refine h10 _ ?_; clear h10; try clear N10
    refine u_cond (fun hb11 => ?_) (fun hb11 => ?_)
    ·obtain ⟨m, hme⟩ := getE (l := l) (i := i) (by omega)
     have hmm := hsm m (mem_at hme)
     refine vc_skip ?_
     try simp only [k_rules]
     refine h9 _ ?_; clear h9; try clear N9
     refine vc_seq_k fun N12 h12 => ?_
     refine vc_block ?_
     refine vc_seq_k fun N13 h13 => ?_
     have hx := And.intro @hme (And.intro @eM.eq_1 hx0)
     refine u_reg ?_
     try refine lg_mk ?_
     refine u_mv ?_
     refine u_mv ?_
     refine u_pt ?_
     refine u_pt ?_
     refine u_ld ?_
     have hc := call_rule (E := (E_cycR.at_ 78)) (f := 36) (sp := Spec.pure rgG) rfl
     have hs := @rgG.eq_1
     refine u_cp ?_
     refine u_mv ?_
     refine lg_nil ?_
     have hx := hx0
     refine h13 _ ?_; clear h13; try clear N13
     refine vc_seq_k fun N14 h14 => ?_
     refine vc_seq_k fun N15 h15 => ?_
     refine u_reg ?_
     try refine lg_mk ?_
     refine u_mv ?_
     refine lg_nil ?_
     refine h15 _ ?_; clear h15; try clear N15
     refine vc_block ?_
     refine vc_loop_mk (σ := Nat) (fun s => (fun k => k ≤ m.nw.length) s)
      (fun s => (fun k => [(0, .d (.sl (rows eM l))), (2, .ptr 0 0 0), (3, .d (.int .i64 (i : Nat))), (4, .d (.bool (rgK m.old && (m.nw.take k).all rgK))), (5, .d (.int .i64 (k : Nat)))]) s)
      (fun s => (fun k => [some (.one 25 [.d (.int .i64 0), .d (.int .i64 0)])]) s) (fun s => (fun k => m.nw.length - k) s) hnp 0 ?_ [some 0] ?_ ?_
     ·dsimp only
      omega
     ·dsimp only
      refine ⟨by rfl, ?_, ?_⟩
      ·refine fin_ ?_
       (repeat' apply And.intro) <;> (first | (first | rfl | trivial | (simp; done)) | exact cl_)
      ·refine fin_ ?_
       (repeat' apply And.intro) <;> (first | (first | rfl | trivial | (simp; done)) | exact cl_)
     ·rintro k hinv N16 h16
      dsimp only at hinv ⊢
      have k1 := hinv
      refine vc_seq_k fun N17 h17 => ?_
      refine vc_seq_k fun N18 h18 => ?_
      have hx := And.intro @hme (And.intro @eM.eq_1 hx0)
      refine u_reg ?_
      try refine lg_mk ?_
      refine u_mv ?_
      refine u_mv ?_
      refine u_mv ?_
      refine u_pt ?_
      refine u_pt ?_
      refine u_ld ?_
      refine u_ln ?_
      refine u_bn ?_
      refine lg_nil ?_
      have hx := hx0
      refine h18 _ ?_; clear h18; try clear N18
      refine u_cond (fun hb19 => ?_) (fun hb19 => ?_)
      ·obtain ⟨x, hxe⟩ := getE (l := m.nw) (i := k) (by omega)
       refine vc_skip ?_
       try simp only [k_rules]
       refine h17 _ ?_; clear h17; try clear N17
       refine vc_seq_k fun N20 h20 => ?_
       refine vc_block ?_
       have hx := And.intro @hme (And.intro @hxe (And.intro @eM.eq_1 (And.intro @eI.eq_1 hx0)))
       refine u_reg ?_
       try refine lg_mk ?_
       refine u_mv ?_
       refine u_mv ?_
       refine g_mv ?_
       refine g_mv ?_
       refine g_pt ?_
       refine g_pt ?_
       refine g_ld ?_
       refine g_mv ?_
       refine g_pt ?_
       refine g_ld ?_
       have hc := call_rule (E := (E_cycR.at_ 78)) (f := 36) (sp := Spec.pure rgG) rfl
       have hs := @rgG.eq_1
       refine g_cp ?_
       refine u_pk ?_
       refine u_mv ?_
       refine lg_nil ?_
       have hx := hx0
       refine h20 _ ?_; clear h20; try clear N20
       refine u_reg ?_
       try refine lg_mk ?_
       refine u_mv ?_
       refine u_bn ?_
       refine u_mv ?_
       refine lg_nil ?_
       refine h16 _ ⟨k + 1, ?_, ?_, [some 0], ?_⟩
       ·dsimp only
        omega
       ·dsimp only
        omega
       ·dsimp only
        refine ⟨by rfl, ?_, ?_⟩
        ·refine fin_ ?_
         (repeat' apply And.intro) <;> (first | (first | rfl | trivial | omega | (rw [all_snoc3 hxe, Bool.and_assoc]; done) | (rw [all_snoc3 hxe, ← Bool.and_assoc]; done) | (left; rw [all_snoc3 hxe, ← Bool.and_assoc]; done)) | exact cl_)
        ·refine fin_ ?_
         (repeat' apply And.intro) <;> (first | (first | rfl | trivial | omega | (rw [all_snoc3 hxe, Bool.and_assoc]; done) | (rw [all_snoc3 hxe, ← Bool.and_assoc]; done) | (left; rw [all_snoc3 hxe, ← Bool.and_assoc]; done)) | exact cl_)
      ·obtain rfl : k = m.nw.length := by omega
       refine vc_exit ?_
       simp only [k_rules, Nat.reduceEqDiff, reduceIte, eq_self]
       refine h14 _ ?_; clear h14; try clear N14
       refine vc_seq_k fun N21 h21 => ?_
       refine vc_seq_k fun N22 h22 => ?_
       refine u_reg ?_
       try refine lg_mk ?_
       refine u_mv ?_
       refine u_un ?_
       refine lg_nil ?_
       refine h22 _ ?_; clear h22; try clear N22
       refine u_cond (fun hb23 => ?_) (fun hb23 => ?_)
       ·refine vc_seq_k fun N24 h24 => ?_
        refine u_reg ?_
        try refine lg_mk ?_
        refine u_mv ?_
        have hc := call_rule (E := (E_cycR.at_ 78)) (f := 12) (sp := Spec.pure faultG) rfl
        have hs := @faultG.eq_1
        refine u_cp ?_
        refine u_st ?_
        refine lg_nil ?_
        refine h24 _ ?_; clear h24; try clear N24
        refine vc_ret ?_
        try simp only [k_rules]
        have hcr : chkR m = false := chkR_no (by have := hb23; simpa using this)
        rw [mkF_at (v := 3) (by have := hb4; omega) (by omega) i2 (by rw [mkC_chk hme (by rw [chkK_3 hcr]; decide), chkK_3 hcr]) (by decide)]
        refine fin2_ ?_
        exact cl_
       ·refine vc_skip ?_
        try simp only [k_rules]
        refine h21 _ ?_; clear h21; try clear N21
        refine vc_seq_k fun N25 h25 => ?_
        have hcr : chkR m = true := chkR_of (by have := hb23; simpa using this)
        rcases hib : incB m.nw with _ | _ <;> rcases Nat.eq_zero_or_pos i with hk0 | hk0
        ·have hgt := hib
         have hye := hme
         have hpm := hme
         have hx := And.intro @hme (And.intro @hye (And.intro @hpm (And.intro @hgt (And.intro @hib (And.intro @eM.eq_1 hx0)))))
         refine u_reg ?_
         try refine lg_mk ?_
         refine u_mv ?_
         refine u_mv ?_
         refine u_pt ?_
         refine u_pt ?_
         refine u_ld ?_
         have hc := call_rule (E := (E_cycR.at_ 78)) (f := 37) (sp := Spec.pure incTG) rfl
         have hs := @incTG.eq_1
         refine u_cp ?_
         refine u_un ?_
         refine u_mv ?_
         refine g_mv ?_
         refine g_bn ?_
         refine g_mv ?_
         refine g_mv ?_
         refine g_mv ?_
         refine g_bn ?_
         refine g_pt ?_
         refine g_ld ?_
         refine g_mv ?_
         refine g_mv ?_
         refine g_pt ?_
         refine g_ld ?_
         have hc := call_rule (E := (E_cycR.at_ 78)) (f := 38) (sp := Spec.pure lessKG) rfl
         have hs := @lessKG.eq_1
         refine g_cp ?_
         refine g_un ?_
         refine g_pk ?_
         refine u_pk ?_
         refine lg_nil ?_
         have hx := hx0
         refine h25 _ ?_; clear h25; try clear N25
         refine u_cond (fun hb26 => ?_) (fun hb26 => ?_)
         ·refine vc_seq_k fun N27 h27 => ?_
          refine u_reg ?_
          try refine lg_mk ?_
          refine u_mv ?_
          have hc := call_rule (E := (E_cycR.at_ 78)) (f := 12) (sp := Spec.pure faultG) rfl
          have hs := @faultG.eq_1
          refine u_cp ?_
          refine u_st ?_
          refine lg_nil ?_
          refine h27 _ ?_; clear h27; try clear N27
          refine vc_ret ?_
          try simp only [k_rules]
          rw [mkF_at (v := 5) (by have := hb4; omega) (by omega) i2 (by rw [mkC_chk hme (by rw [chkK_5 hcr hib]; decide), chkK_5 hcr hib]) (by decide)]
          refine fin2_ ?_
          exact cl_
         ·first | omega | exact absurd trivial hb26 | contradiction | (simp_all; done)
        ·have hgt := hib
         have hye := hme
         have hpm := hme
         have hx := And.intro @hme (And.intro @hye (And.intro @hpm (And.intro @hgt (And.intro @hib (And.intro @eM.eq_1 hx0)))))
         refine u_reg ?_
         try refine lg_mk ?_
         refine u_mv ?_
         refine u_mv ?_
         refine u_pt ?_
         refine u_pt ?_
         refine u_ld ?_
         have hc := call_rule (E := (E_cycR.at_ 78)) (f := 37) (sp := Spec.pure incTG) rfl
         have hs := @incTG.eq_1
         refine u_cp ?_
         refine u_un ?_
         refine u_mv ?_
         refine g_mv ?_
         refine g_bn ?_
         refine g_mv ?_
         refine g_mv ?_
         refine g_mv ?_
         refine g_bn ?_
         refine g_pt ?_
         refine g_ld ?_
         refine g_mv ?_
         refine g_mv ?_
         refine g_pt ?_
         refine g_ld ?_
         have hc := call_rule (E := (E_cycR.at_ 78)) (f := 38) (sp := Spec.pure lessKG) rfl
         have hs := @lessKG.eq_1
         refine g_cp ?_
         refine g_un ?_
         refine g_pk ?_
         refine u_pk ?_
         refine lg_nil ?_
         have hx := hx0
         refine h25 _ ?_; clear h25; try clear N25
         refine u_cond (fun hb28 => ?_) (fun hb28 => ?_)
         ·refine vc_seq_k fun N29 h29 => ?_
          refine u_reg ?_
          try refine lg_mk ?_
          refine u_mv ?_
          have hc := call_rule (E := (E_cycR.at_ 78)) (f := 12) (sp := Spec.pure faultG) rfl
          have hs := @faultG.eq_1
          refine u_cp ?_
          refine u_st ?_
          refine lg_nil ?_
          refine h29 _ ?_; clear h29; try clear N29
          refine vc_ret ?_
          try simp only [k_rules]
          rw [mkF_at (v := 5) (by have := hb4; omega) (by omega) i2 (by rw [mkC_chk hme (by rw [chkK_5 hcr hib]; decide), chkK_5 hcr hib]) (by decide)]
          refine fin2_ ?_
          exact cl_
         ·first | omega | exact absurd trivial hb28 | contradiction | (simp_all; done)
        ·have hgt : decide ((0 : Int) < (i : Int)) = false := decide_eq_false (by omega)
         have hye := hme
         have hpm := hme
         have hx := And.intro @hme (And.intro @hye (And.intro @hpm (And.intro @hgt (And.intro @hib (And.intro @eM.eq_1 hx0)))))
         refine u_reg ?_
         try refine lg_mk ?_
         refine u_mv ?_
         refine u_mv ?_
         refine u_pt ?_
         refine u_pt ?_
         refine u_ld ?_
         have hc := call_rule (E := (E_cycR.at_ 78)) (f := 37) (sp := Spec.pure incTG) rfl
         have hs := @incTG.eq_1
         refine u_cp ?_
         refine u_un ?_
         refine u_mv ?_
         refine g_mv ?_
         refine g_bn ?_
         refine g_mv ?_
         refine g_mv ?_
         refine g_mv ?_
         refine g_bn ?_
         refine g_pt ?_
         refine g_ld ?_
         refine g_mv ?_
         refine g_mv ?_
         refine g_pt ?_
         refine g_ld ?_
         have hc := call_rule (E := (E_cycR.at_ 78)) (f := 38) (sp := Spec.pure lessKG) rfl
         have hs := @lessKG.eq_1
         refine g_cp ?_
         refine g_un ?_
         refine g_pk ?_
         refine u_pk ?_
         refine lg_nil ?_
         have hx := hx0
         refine h25 _ ?_; clear h25; try clear N25
         refine u_cond (fun hb30 => ?_) (fun hb30 => ?_)
         ·first | omega | exact absurd trivial hb30 | contradiction | (simp_all; done)
         ·refine vc_skip ?_
          try simp only [k_rules]
          refine h12 _ ?_; clear h12; try clear N12
          refine u_reg ?_
          try refine lg_mk ?_
          refine u_mv ?_
          refine u_bn ?_
          refine u_mv ?_
          refine lg_nil ?_
          refine h8 _ ⟨i + 1, ?_, ?_, [some 0], ?_⟩
          ·dsimp only
           exact ⟨by omega, lt_snoc i2 (by rw [mkC_ok (y := default) hme (chkK_0 hcr hib) (fun h => by omega)])⟩
          ·dsimp only
           omega
          ·dsimp only
           refine ⟨by rfl, ?_, ?_⟩
           ·refine fin_ ?_
            exact cl_
           ·refine fin_ ?_
            exact cl_
        ·obtain ⟨y, hye⟩ := getE (l := l) (i := i - 1) (by omega)
         have hym := hsm y (mem_at hye)
         have hpm : ((i : Int) - 1).toNat = i - 1 := by omega
         have hgt : decide ((0 : Int) < (i : Int)) = true := decide_eq_true (by omega)
         have hx := And.intro @hme (And.intro @hye (And.intro @hpm (And.intro @hgt (And.intro @hib (And.intro @eM.eq_1 hx0)))))
         refine u_reg ?_
         try refine lg_mk ?_
         refine u_mv ?_
         refine u_mv ?_
         refine u_pt ?_
         refine u_pt ?_
         refine u_ld ?_
         have hc := call_rule (E := (E_cycR.at_ 78)) (f := 37) (sp := Spec.pure incTG) rfl
         have hs := @incTG.eq_1
         refine u_cp ?_
         refine u_un ?_
         refine u_mv ?_
         refine g_mv ?_
         refine g_bn ?_
         refine g_mv ?_
         refine g_mv ?_
         refine g_mv ?_
         refine g_bn ?_
         refine g_pt ?_
         refine g_ld ?_
         refine g_mv ?_
         refine g_mv ?_
         refine g_pt ?_
         refine g_ld ?_
         have hc := call_rule (E := (E_cycR.at_ 78)) (f := 38) (sp := Spec.pure lessKG) rfl
         have hs := @lessKG.eq_1
         refine g_cp ?_
         refine g_un ?_
         refine g_pk ?_
         refine u_pk ?_
         refine lg_nil ?_
         have hx := hx0
         refine h25 _ ?_; clear h25; try clear N25
         refine u_cond (fun hb31 => ?_) (fun hb31 => ?_)
         ·refine vc_seq_k fun N32 h32 => ?_
          refine u_reg ?_
          try refine lg_mk ?_
          refine u_mv ?_
          have hc := call_rule (E := (E_cycR.at_ 78)) (f := 12) (sp := Spec.pure faultG) rfl
          have hs := @faultG.eq_1
          refine u_cp ?_
          refine u_st ?_
          refine lg_nil ?_
          refine h32 _ ?_; clear h32; try clear N32
          refine vc_ret ?_
          try simp only [k_rules]
          rw [mkF_at (v := 5) (by have := hb4; omega) (by omega) i2 (mkC_prev hme (chkK_0 hcr hib) hk0 hye (by have := hb31; simpa using this)) (by decide)]
          refine fin2_ ?_
          exact cl_
         ·refine vc_skip ?_
          try simp only [k_rules]
          refine h12 _ ?_; clear h12; try clear N12
          refine u_reg ?_
          try refine lg_mk ?_
          refine u_mv ?_
          refine u_bn ?_
          refine u_mv ?_
          refine lg_nil ?_
          refine h8 _ ⟨i + 1, ?_, ?_, [some 0], ?_⟩
          ·dsimp only
           exact ⟨by omega, lt_snoc i2 (by rw [mkC_ok (y := y) hme (chkK_0 hcr hib) (fun _ => ⟨hye, by have := hb31; simpa using this⟩)])⟩
          ·dsimp only
           omega
          ·dsimp only
           refine ⟨by rfl, ?_, ?_⟩
           ·refine fin_ ?_
            exact cl_
           ·refine fin_ ?_
            exact cl_
    ·refine vc_exit ?_
     simp only [k_rules, Nat.reduceEqDiff, reduceIte, eq_self]
     refine h6 _ ?_; clear h6; try clear N6
     refine vc_seq_k fun N33 h33 => ?_
     refine vc_seq_k fun N34 h34 => ?_
     refine u_reg ?_
     try refine lg_mk ?_
     refine u_mv ?_
     have hc := call_rule (E := (E_cycR.at_ 78)) (f := 14) (sp := Spec.pure cycG) rfl
     have hs := @cycG.eq_1
     refine u_cp (hq := by (first | (exact ⟨hl, hsm, okM_of (fun j hj => i2 j (by omega))⟩) | exact sd_)) ?_
     refine lg_nil ?_
     refine h34 _ ?_; clear h34; try clear N34
     refine u_cond (fun hb35 => ?_) (fun hb35 => ?_)
     ·refine vc_seq_k fun N36 h36 => ?_
      refine u_reg ?_
      try refine lg_mk ?_
      have hc := call_rule (E := (E_cycR.at_ 78)) (f := 12) (sp := Spec.pure faultG) rfl
      have hs := @faultG.eq_1
      refine u_cp ?_
      refine u_st ?_
      refine lg_nil ?_
      refine h36 _ ?_; clear h36; try clear N36
      refine vc_ret ?_
      try simp only [k_rules]
      rw [mkF_cyc (by have := hb4; omega) (fun j hj => i2 j (by omega)) (by have := hb35; simpa using this)]
      refine fin2_ ?_
      exact cl_
     ·refine vc_skip ?_
      try simp only [k_rules]
      refine h33 _ ?_; clear h33; try clear N33
      refine vc_seq_k fun N37 h37 => ?_
      refine u_reg ?_
      try refine lg_mk ?_
      refine u_bd ?_
      refine u_st ?_
      refine lg_nil ?_
      refine h37 _ ?_; clear h37; try clear N37
      refine vc_ret ?_
      try simp only [k_rules]
      rw [mkF_ok (by have := hb4; omega) (fun j hj => i2 j (by omega)) (by have := hb35; simpa using this)]
      refine fin2_ ?_
      exact cl_
 ·cases hg

def E_mkFR : Env Try.prog := E_cycR.add 11 (Spec.pure valKG) mkFR_meets (by kernel_rfl)

theorem sucR_meets : Meets Try.prog 22 (Spec.pure sucRG) := by
 refine meets_fun (E_mkFR.at_ 37) Try.func22 rfl rfl rfl ?_
 intro args p r hg hp
 unfold sucRG at hg
 split at hg
 ·rename_i xs n
  simp only [Option.some.injEq, Prod.mk.injEq] at hg
  obtain ⟨rfl, rfl⟩ := hg
  obtain ⟨he, hl, hsm, hok, hrn⟩ := hp
  generalize dM xs = l at *
  subst he
  obtain ⟨hn1, hn2⟩ := rg_of hrn
  have hrow := matB_get (F := rcK l) (n := 60) (i := n.toNat) (by omega)
  have hT : (E_mkFR).X = T := rfl
  have hx0 := And.intro @matB_len (And.intro @vec_len (And.intro @dM_rows (And.intro @dec_t (And.intro @dec_f @Try.results22))))
  have hx := hx0
  refine ⟨by rfl, ?_⟩
  intro F W0 hnp hmk
  refine vc_seq_k fun N1 h1 => ?_
  refine u_reg ?_
  try refine lg_mk ?_
  refine u_mv ?_
  refine lg_nil ?_
  refine h1 _ ?_; clear h1; try clear N1
  refine vc_seq_k fun N2 h2 => ?_
  refine u_reg ?_
  try refine lg_mk ?_
  refine u_mv ?_
  have hc := call_rule (E := (E_mkFR.at_ 37)) (f := 39) (sp := Spec.pure repG) rfl
  have hs := @repG.eq_1
  refine u_hp (hq := by (first | (exact ⟨hl, hsm, hok⟩) | exact sd_)) ?_
  refine u_mv ?_
  refine lg_nil ?_
  refine h2 _ ?_; clear h2; try clear N2
  refine vc_seq_k fun N3 h3 => ?_
  refine u_reg ?_
  try refine lg_mk ?_
  refine u_mv ?_
  refine lg_nil ?_
  refine h3 _ ?_; clear h3; try clear N3
  refine vc_seq_k fun N4 h4 => ?_
  refine vc_seq_k fun N5 h5 => ?_
  refine u_reg ?_
  try refine lg_mk ?_
  refine u_mv ?_
  refine lg_nil ?_
  refine h5 _ ?_; clear h5; try clear N5
  refine vc_block ?_
  refine vc_loop_mk (σ := Nat) (fun s => (fun i => i ≤ 60) s)
   (fun s => (fun i => [(0, .d (.sl (rows eM l))), (1, .d (.int .i64 n)), (5, .d (.sl (rows (eL eB) (matB (rcK l) 60)))), (6, .sl 0 0 (lst i (sucC l n)).length), (7, .d (.int .i64 (i : Nat)))]) s)
   (fun s => (fun i => [some (.vec 3 1 (rows eI (lst i (sucC l n))))]) s) (fun s => (fun i => 60 - i) s) hnp 0 ?_ [none] ?_ ?_
  ·dsimp only
   omega
  ·dsimp only
   refine ⟨by rfl, ?_, ?_⟩
   ·refine fin_ ?_
    exact cl_
   ·refine fin_ ?_
    exact cl_
  ·rintro i hinv N6 h6
   dsimp only at hinv ⊢
   have i1 := hinv
   refine vc_seq_k fun N7 h7 => ?_
   refine vc_seq_k fun N8 h8 => ?_
   refine u_reg ?_
   try refine lg_mk ?_
   refine u_mv ?_
   refine u_bn ?_
   refine lg_nil ?_
   refine h8 _ ?_; clear h8; try clear N8
   refine u_cond (fun hb9 => ?_) (fun hb9 => ?_)
   ·have hgk := vec_get (n := 60) (f := rcK l n.toNat) (k := i) (by omega)
    have hll := lst_len i (sucC l n)
    refine vc_skip ?_
    try simp only [k_rules]
    refine h7 _ ?_; clear h7; try clear N7
    refine vc_seq_k fun N10 h10 => ?_
    refine vc_block ?_
    refine vc_seq_k fun N11 h11 => ?_
    have hx := And.intro @hrow (And.intro @hgk (And.intro @eL.eq_1 (And.intro @eB.eq_1 hx0)))
    refine u_reg ?_
    try refine lg_mk ?_
    refine u_mv ?_
    refine u_mv ?_
    refine u_bn ?_
    refine u_mv ?_
    refine g_mv ?_
    refine g_mv ?_
    refine g_pt ?_
    refine g_ld ?_
    refine g_mv ?_
    refine g_pt ?_
    refine g_ld ?_
    refine u_pk ?_
    refine u_mv ?_
    refine g_mv ?_
    refine g_mv ?_
    have hc := call_rule (E := (E_mkFR.at_ 37)) (f := 26) (sp := Spec.pure goneG) rfl
    have hs := @goneG.eq_1
    refine g_cp ?_
    refine g_un ?_
    refine u_pk ?_
    refine lg_nil ?_
    have hx := hx0
    refine h11 _ ?_; clear h11; try clear N11
    refine u_cond (fun hb12 => ?_) (fun hb12 => ?_)
    ·refine u_reg ?_
     try refine lg_mk ?_
     refine u_mv ?_
     refine u_mv ?_
     refine u_bs ?_
     refine u_ap ?_
     refine u_mv ?_
     refine lg_nil ?_
     refine h10 _ ?_; clear h10; try clear N10
     refine u_reg ?_
     try refine lg_mk ?_
     refine u_mv ?_
     refine u_bn ?_
     refine u_mv ?_
     refine lg_nil ?_
     have hls := lst_yes (f := sucC l n) (i := i) (by have := hb12; unfold sucC; simpa using this)
     refine h6 _ ⟨i + 1, ?_, ?_, [some 2], ?_⟩
     ·dsimp only
      omega
     ·dsimp only
      omega
     ·dsimp only
      refine ⟨by rfl, ?_, ?_⟩
      ·refine fin_ ?_
       (repeat' apply And.intro) <;> (first | (first | (with_reducible rfl) | exact True.intro | (rw [hls]; simp [rows, eI]; done)) | exact cl_)
      ·refine fin_ ?_
       (repeat' apply And.intro) <;> (first | (first | (with_reducible rfl) | exact True.intro | (rw [hls]; simp [rows, eI]; done)) | exact cl_)
    ·refine vc_skip ?_
     try simp only [k_rules]
     refine h10 _ ?_; clear h10; try clear N10
     refine u_reg ?_
     try refine lg_mk ?_
     refine u_mv ?_
     refine u_bn ?_
     refine u_mv ?_
     refine lg_nil ?_
     have hls := lst_no (f := sucC l n) (i := i) (by have := hb12; unfold sucC; simpa using this)
     refine h6 _ ⟨i + 1, ?_, ?_, [some 0], ?_⟩
     ·dsimp only
      omega
     ·dsimp only
      omega
     ·dsimp only
      refine ⟨by rfl, ?_, ?_⟩
      ·refine fin_ ?_
       (repeat' apply And.intro) <;> (first | (first | (with_reducible rfl) | exact True.intro | (rw [hls]; done)) | exact cl_)
      ·refine fin_ ?_
       (repeat' apply And.intro) <;> (first | (first | (with_reducible rfl) | exact True.intro | (rw [hls]; done)) | exact cl_)
   ·refine vc_exit ?_
    simp only [k_rules, Nat.reduceEqDiff, reduceIte, eq_self]
    refine h4 _ ?_; clear h4; try clear N4
    refine vc_seq_k fun N13 h13 => ?_
    refine u_reg ?_
    try refine lg_mk ?_
    refine u_mv ?_
    refine u_mv ?_
    refine lg_nil ?_
    refine h13 _ ?_; clear h13; try clear N13
    refine vc_ret ?_
    try simp only [k_rules]
    obtain rfl : i = 60 := by omega
    have hr2 : sucK l n = lst 60 (sucC l n) := rfl
    rw [hr2]
    refine fin2_ ?_
    (repeat' apply And.intro) <;> (first | (first | rfl | exact Or.inl rfl | trivial | (simp; done)) | exact cl_)
 ·cases hg

def E_sucR : Env Try.prog := E_mkFR.add 22 (Spec.pure sucRG) sucR_meets (by kernel_rfl)

theorem divR_meets : Meets Try.prog 20 (Spec.pure divRG) := by
 refine meets_fun (E_sucR.at_ 54) Try.func20 rfl rfl rfl ?_
 intro args p r hg hp
 unfold divRG at hg
 split at hg
 ·rename_i xs
  simp only [Option.some.injEq, Prod.mk.injEq] at hg
  obtain ⟨rfl, rfl⟩ := hg
  obtain ⟨he, hl, hsm⟩ := hp
  generalize dM xs = l at *
  subst he
  have hT : (E_sucR).X = T := rfl
  have hx0 := And.intro @rect_eM (And.intro @dM_rows (And.intro @dI_rows (And.intro @dec_t (And.intro @dec_f @Try.results20))))
  have hx := hx0
  refine ⟨by rfl, ?_⟩
  intro F W0 hnp hmk
  refine vc_seq_k fun N1 h1 => ?_
  refine u_reg ?_
  try refine lg_mk ?_
  refine u_mv ?_
  refine lg_nil ?_
  refine h1 _ ?_; clear h1; try clear N1
  refine vc_seq_k fun N2 h2 => ?_
  refine u_reg ?_
  try refine lg_mk ?_
  refine u_mv ?_
  refine lg_nil ?_
  refine h2 _ ?_; clear h2; try clear N2
  refine vc_seq_k fun N3 h3 => ?_
  refine vc_seq_k fun N4 h4 => ?_
  refine u_reg ?_
  try refine lg_mk ?_
  refine u_mv ?_
  refine lg_nil ?_
  refine h4 _ ?_; clear h4; try clear N4
  refine vc_block ?_
  refine vc_loop_mk (σ := Nat) (fun s => (fun i => i ≤ l.length) s)
   (fun s => (fun i => [(0, .d (.sl (rows eM l))), (3, .d (.sl (rows eI (dvI l i)))), (4, .d (.int .i64 (i : Nat)))]) s)
   (fun s => (fun i => []) s) (fun s => (fun i => l.length - i) s) hnp 0 ?_ [] ?_ ?_
  ·dsimp only
   omega
  ·dsimp only
   refine ⟨by rfl, ?_, ?_⟩
   ·refine fin_ ?_
    exact cl_
   ·refine fin_ ?_
    exact cl_
  ·rintro i hinv N5 h5
   dsimp only at hinv ⊢
   have i1 := hinv
   refine vc_seq_k fun N6 h6 => ?_
   refine vc_seq_k fun N7 h7 => ?_
   refine u_reg ?_
   try refine lg_mk ?_
   refine u_mv ?_
   refine u_mv ?_
   refine u_ln ?_
   refine u_bn ?_
   refine lg_nil ?_
   refine h7 _ ?_; clear h7; try clear N7
   refine u_cond (fun hb8 => ?_) (fun hb8 => ?_)
   ·refine vc_skip ?_
    try simp only [k_rules]
    refine h6 _ ?_; clear h6; try clear N6
    refine vc_seq_k fun N9 h9 => ?_
    refine vc_block ?_
    refine vc_seq_k fun N10 h10 => ?_
    refine u_reg ?_
    try refine lg_mk ?_
    refine u_mv ?_
    refine lg_nil ?_
    refine h10 _ ?_; clear h10; try clear N10
    refine vc_block ?_
    refine vc_loop_mk (σ := Nat) (fun s => (fun k => k ≤ i) s)
     (fun s => (fun k => [(0, .d (.sl (rows eM l))), (3, .d (.sl (rows eI (dvK l i k (dvI l i))))), (4, .d (.int .i64 (i : Nat))), (5, .d (.int .i64 (k : Nat)))]) s)
     (fun s => (fun k => []) s) (fun s => (fun k => i - k) s) hnp 0 ?_ [] ?_ ?_
    ·dsimp only
     omega
    ·dsimp only
     refine ⟨by rfl, ?_, ?_⟩
     ·refine fin_ ?_
      exact cl_
     ·refine fin_ ?_
      exact cl_
    ·rintro k hinv N11 h11
     dsimp only at hinv ⊢
     have k1 := hinv
     refine vc_seq_k fun N12 h12 => ?_
     refine vc_seq_k fun N13 h13 => ?_
     refine u_reg ?_
     try refine lg_mk ?_
     refine u_mv ?_
     refine u_mv ?_
     refine u_bn ?_
     refine lg_nil ?_
     refine h13 _ ?_; clear h13; try clear N13
     refine u_cond (fun hb14 => ?_) (fun hb14 => ?_)
     ·obtain ⟨a, hae⟩ := getE (l := l) (i := i) (by omega)
      obtain ⟨b, hbe⟩ := getE (l := l) (i := k) (by omega)
      have ham := hsm a (mem_at hae)
      have hbm := hsm b (mem_at hbe)
      have hd1 := dvI_len l i (by omega)
      have hd2 := dvK_len l i k (dvI l i)
      refine vc_skip ?_
      try simp only [k_rules]
      refine h12 _ ?_; clear h12; try clear N12
      refine vc_seq_k fun N15 h15 => ?_
      refine vc_block ?_
      refine vc_seq_k fun N16 h16 => ?_
      have hx := And.intro @hae (And.intro @hbe (And.intro @eM.eq_1 hx0))
      refine u_reg ?_
      try refine lg_mk ?_
      refine u_mv ?_
      refine u_mv ?_
      refine u_pt ?_
      refine u_pt ?_
      refine u_ld ?_
      refine u_mv ?_
      refine u_mv ?_
      refine u_pt ?_
      refine u_pt ?_
      refine u_ld ?_
      refine u_bn ?_
      refine u_mv ?_
      refine g_mv ?_
      refine g_mv ?_
      refine g_pt ?_
      refine g_pt ?_
      refine g_ld ?_
      refine g_ln ?_
      refine g_bn ?_
      refine u_pk ?_
      refine u_mv ?_
      refine g_mv ?_
      refine g_mv ?_
      refine g_pt ?_
      refine g_pt ?_
      refine g_ld ?_
      refine g_ln ?_
      refine g_bn ?_
      refine u_pk ?_
      refine lg_nil ?_
      have hx := hx0
      refine h16 _ ?_; clear h16; try clear N16
      refine u_cond (fun hb17 => ?_) (fun hb17 => ?_)
      ·have hx := And.intro @hae (And.intro @eM.eq_1 hx0)
       refine u_reg ?_
       try refine lg_mk ?_
       refine u_mv ?_
       refine u_mv ?_
       refine u_mv ?_
       refine u_pt ?_
       refine u_pt ?_
       refine u_ld ?_
       have hc := call_rule (E := (E_sucR.at_ 54)) (f := 44) (sp := Spec.pure insG) rfl
       have hs := @insG.eq_1
       refine u_hp ?_
       refine u_mv ?_
       refine lg_nil ?_
       have hx := hx0
       refine h15 _ ?_; clear h15; try clear N15
       refine u_reg ?_
       try refine lg_mk ?_
       refine u_mv ?_
       refine u_bn ?_
       refine u_mv ?_
       refine lg_nil ?_
       have ht := hb17
       (try simp only [Bool.and_eq_true, decide_eq_true_eq] at ht)
       have hd := dvK_yes (acc := dvI l i) hae hbe (by omega) (by omega) (by omega)
       refine h11 _ ⟨k + 1, ?_, ?_, [], ?_⟩
       ·dsimp only
        omega
       ·dsimp only
        omega
       ·dsimp only
        refine ⟨by rfl, ?_, ?_⟩
        ·refine fin_ ?_
         (repeat' apply And.intro) <;> (first | (first | rfl | trivial | omega | (rw [hd]; done) | (left; rw [hd]; done)) | exact cl_)
        ·refine fin_ ?_
         (repeat' apply And.intro) <;> (first | (first | rfl | trivial | omega | (rw [hd]; done) | (left; rw [hd]; done)) | exact cl_)
      ·refine vc_skip ?_
       try simp only [k_rules]
       refine h15 _ ?_; clear h15; try clear N15
       refine u_reg ?_
       try refine lg_mk ?_
       refine u_mv ?_
       refine u_bn ?_
       refine u_mv ?_
       refine lg_nil ?_
       have ht := hb17
       have hd := dvK_no (acc := dvI l i) hae hbe (fun h => by omega)
       refine h11 _ ⟨k + 1, ?_, ?_, [], ?_⟩
       ·dsimp only
        omega
       ·dsimp only
        omega
       ·dsimp only
        refine ⟨by rfl, ?_, ?_⟩
        ·refine fin_ ?_
         (repeat' apply And.intro) <;> (first | (first | rfl | trivial | omega | (rw [hd]; done) | (left; rw [hd]; done)) | exact cl_)
        ·refine fin_ ?_
         (repeat' apply And.intro) <;> (first | (first | rfl | trivial | omega | (rw [hd]; done) | (left; rw [hd]; done)) | exact cl_)
     ·refine vc_exit ?_
      simp only [k_rules, Nat.reduceEqDiff, reduceIte, eq_self]
      refine h9 _ ?_; clear h9; try clear N9
      refine u_reg ?_
      try refine lg_mk ?_
      refine u_mv ?_
      refine u_bn ?_
      refine u_mv ?_
      refine lg_nil ?_
      obtain rfl : k = i := by omega
      refine h5 _ ⟨k + 1, ?_, ?_, [], ?_⟩
      ·dsimp only
       omega
      ·dsimp only
       omega
      ·dsimp only
       refine ⟨by rfl, ?_, ?_⟩
       ·refine fin_ ?_
        exact cl_
       ·refine fin_ ?_
        exact cl_
   ·refine vc_exit ?_
    simp only [k_rules, Nat.reduceEqDiff, reduceIte, eq_self]
    refine h3 _ ?_; clear h3; try clear N3
    refine vc_seq_k fun N18 h18 => ?_
    refine u_reg ?_
    try refine lg_mk ?_
    refine u_mv ?_
    refine u_mv ?_
    refine lg_nil ?_
    refine h18 _ ?_; clear h18; try clear N18
    refine vc_ret ?_
    try simp only [k_rules]
    obtain rfl : i = l.length := by omega
    refine fin2_ ?_
    exact cl_
 ·cases hg

def E_divR : Env Try.prog := E_sucR.add 20 (Spec.pure divRG) divR_meets (by kernel_rfl)

theorem orpR_meets : Meets Try.prog 28 (Spec.pure orpRG) := by
 refine meets_fun (E_divR.at_ 50) Try.func28 rfl rfl rfl ?_
 intro args p r hg hp
 unfold orpRG at hg
 split at hg
 ·rename_i xs ys
  simp only [Option.some.injEq, Prod.mk.injEq] at hg
  obtain ⟨rfl, rfl⟩ := hg
  obtain ⟨he, hl, he2, hval⟩ := hp
  generalize dM xs = l at *
  generalize dC ys = C at *
  subst he he2
  have hc60 := hval.len
  have hT : (E_divR).X = T := rfl
  have hx0 := And.intro @rect_eM (And.intro @ancR_len (And.intro @vec_len (And.intro @dM_rows (And.intro @dC_rows (And.intro @dec_t (And.intro @dec_f @Try.results28))))))
  have hx := hx0
  refine ⟨by rfl, ?_⟩
  intro F W0 hnp hmk
  refine vc_seq_k fun N1 h1 => ?_
  refine u_reg ?_
  try refine lg_mk ?_
  refine u_mv ?_
  refine lg_nil ?_
  refine h1 _ ?_; clear h1; try clear N1
  refine vc_seq_k fun N2 h2 => ?_
  refine u_reg ?_
  try refine lg_mk ?_
  refine u_mv ?_
  have hc := call_rule (E := (E_divR.at_ 50)) (f := 49) (sp := Spec.pure reachRG) rfl
  have hs := @reachRG.eq_1
  refine u_hp ?_
  refine u_mv ?_
  refine lg_nil ?_
  refine h2 _ ?_; clear h2; try clear N2
  refine vc_seq_k fun N3 h3 => ?_
  refine u_reg ?_
  try refine lg_mk ?_
  refine u_mv ?_
  refine lg_nil ?_
  refine h3 _ ?_; clear h3; try clear N3
  refine vc_seq_k fun N4 h4 => ?_
  refine vc_seq_k fun N5 h5 => ?_
  refine u_reg ?_
  try refine lg_mk ?_
  refine u_mv ?_
  refine lg_nil ?_
  refine h5 _ ?_; clear h5; try clear N5
  refine vc_block ?_
  refine vc_loop_mk (σ := Nat) (fun s => (fun i => i ≤ C.length) s)
   (fun s => (fun i => [(0, .d (.sl (rows eM l))), (1, .d (.sl (rows eC C))), (5, .d (.sl (rows (eL eB) (ancR C C.length)))), (6, .sl 0 0 (lst i (orpB l C)).length), (7, .d (.int .i64 (i : Nat)))]) s)
   (fun s => (fun i => [some (.vec 3 1 (rows eI (lst i (orpB l C))))]) s) (fun s => (fun i => C.length - i) s) hnp 0 ?_ [none] ?_ ?_
  ·dsimp only
   omega
  ·dsimp only
   refine ⟨by rfl, ?_, ?_⟩
   ·refine fin_ ?_
    exact cl_
   ·refine fin_ ?_
    exact cl_
  ·rintro i hinv N6 h6
   dsimp only at hinv ⊢
   have i1 := hinv
   refine vc_seq_k fun N7 h7 => ?_
   refine vc_seq_k fun N8 h8 => ?_
   refine u_reg ?_
   try refine lg_mk ?_
   refine u_mv ?_
   refine u_mv ?_
   refine u_ln ?_
   refine u_bn ?_
   refine lg_nil ?_
   refine h8 _ ?_; clear h8; try clear N8
   refine u_cond (fun hb9 => ?_) (fun hb9 => ?_)
   ·have hil : i < C.length := by omega
    have hrow := ancR_get (l := C) (m := C.length) (i := i) hil
    have hll := lst_len i (orpB l C)
    refine vc_skip ?_
    try simp only [k_rules]
    refine h7 _ ?_; clear h7; try clear N7
    refine vc_seq_k fun N10 h10 => ?_
    refine vc_block ?_
    refine vc_seq_k fun N11 h11 => ?_
    refine u_reg ?_
    try refine lg_mk ?_
    refine u_mv ?_
    refine lg_nil ?_
    refine h11 _ ?_; clear h11; try clear N11
    refine vc_seq_k fun N12 h12 => ?_
    refine vc_seq_k fun N13 h13 => ?_
    refine u_reg ?_
    try refine lg_mk ?_
    refine u_mv ?_
    refine lg_nil ?_
    refine h13 _ ?_; clear h13; try clear N13
    refine vc_block ?_
    refine vc_loop_mk (σ := Nat) (fun s => (fun k => k ≤ i) s)
     (fun s => (fun k => [(0, .d (.sl (rows eM l))), (1, .d (.sl (rows eC C))), (5, .d (.sl (rows (eL eB) (ancR C C.length)))), (6, .sl 0 0 (lst i (orpB l C)).length), (7, .d (.int .i64 (i : Nat))), (8, .d (.bool (oldP l C i k))), (9, .d (.int .i64 (k : Nat)))]) s)
     (fun s => (fun k => [some (.vec 3 1 (rows eI (lst i (orpB l C))))]) s) (fun s => (fun k => i - k) s) hnp 0 ?_ [some 0] ?_ ?_
    ·dsimp only
     omega
    ·dsimp only
     refine ⟨by rfl, ?_, ?_⟩
     ·refine fin_ ?_
      exact cl_
     ·refine fin_ ?_
      exact cl_
    ·rintro k hinv N14 h14
     dsimp only at hinv ⊢
     have k1 := hinv
     refine vc_seq_k fun N15 h15 => ?_
     refine vc_seq_k fun N16 h16 => ?_
     refine u_reg ?_
     try refine lg_mk ?_
     refine u_mv ?_
     refine u_mv ?_
     refine u_bn ?_
     refine lg_nil ?_
     refine h16 _ ?_; clear h16; try clear N16
     refine u_cond (fun hb17 => ?_) (fun hb17 => ?_)
     ·have hgk := vec_get (n := C.length) (f := ancB C i) (k := k) (by omega)
      refine vc_skip ?_
      try simp only [k_rules]
      refine h15 _ ?_; clear h15; try clear N15
      refine vc_seq_k fun N18 h18 => ?_
      refine vc_block ?_
      rcases hop : oldP l C i k with _ | _
      ·have hos := oldP_succ l C i k
       rw [hop, Bool.false_or] at hos
       have hx := And.intro @hop (And.intro @hrow (And.intro @hgk (And.intro @eL.eq_1 (And.intro @eB.eq_1 hx0))))
       refine u_reg ?_
       try refine lg_mk ?_
       refine u_mv ?_
       refine u_mv ?_
       refine g_mv ?_
       refine g_mv ?_
       refine g_pt ?_
       refine g_ld ?_
       refine g_mv ?_
       refine g_pt ?_
       refine g_ld ?_
       refine g_mv ?_
       refine g_mv ?_
       refine g_mv ?_
       have hc := call_rule (E := (E_divR.at_ 50)) (f := 26) (sp := Spec.pure goneG) rfl
       have hs := @goneG.eq_1
       refine g_cp ?_
       refine g_pk ?_
       refine u_pk ?_
       refine u_mv ?_
       refine lg_nil ?_
       have hx := hx0
       refine h18 _ ?_; clear h18; try clear N18
       refine u_reg ?_
       try refine lg_mk ?_
       refine u_mv ?_
       refine u_bn ?_
       refine u_mv ?_
       refine lg_nil ?_
       refine h14 _ ⟨k + 1, ?_, ?_, [some 0], ?_⟩
       ·dsimp only
        omega
       ·dsimp only
        omega
       ·dsimp only
        refine ⟨by rfl, ?_, ?_⟩
        ·refine fin_ ?_
         (repeat' apply And.intro) <;> (first | (first | (with_reducible rfl) | exact True.intro | omega | (rw [hos]; done) | (left; rw [hos]; done)) | exact cl_)
        ·refine fin_ ?_
         (repeat' apply And.intro) <;> (first | (first | (with_reducible rfl) | exact True.intro | omega | (rw [hos]; done) | (left; rw [hos]; done)) | exact cl_)
      ·have hos := oldP_succ l C i k
       rw [hop, Bool.true_or] at hos
       have hx := And.intro @hop (And.intro @hrow (And.intro @hgk (And.intro @eL.eq_1 (And.intro @eB.eq_1 hx0))))
       refine u_reg ?_
       try refine lg_mk ?_
       refine u_mv ?_
       refine u_mv ?_
       refine g_mv ?_
       refine g_mv ?_
       refine g_pt ?_
       refine g_ld ?_
       refine g_mv ?_
       refine g_pt ?_
       refine g_ld ?_
       refine g_mv ?_
       refine g_mv ?_
       refine g_mv ?_
       have hc := call_rule (E := (E_divR.at_ 50)) (f := 26) (sp := Spec.pure goneG) rfl
       have hs := @goneG.eq_1
       refine g_cp ?_
       refine g_pk ?_
       refine u_pk ?_
       refine u_mv ?_
       refine lg_nil ?_
       have hx := hx0
       refine h18 _ ?_; clear h18; try clear N18
       refine u_reg ?_
       try refine lg_mk ?_
       refine u_mv ?_
       refine u_bn ?_
       refine u_mv ?_
       refine lg_nil ?_
       refine h14 _ ⟨k + 1, ?_, ?_, [some 0], ?_⟩
       ·dsimp only
        omega
       ·dsimp only
        omega
       ·dsimp only
        refine ⟨by rfl, ?_, ?_⟩
        ·refine fin_ ?_
         (repeat' apply And.intro) <;> (first | (first | (with_reducible rfl) | exact True.intro | omega | (rw [hos]; done) | (left; rw [hos]; done)) | exact cl_)
        ·refine fin_ ?_
         (repeat' apply And.intro) <;> (first | (first | (with_reducible rfl) | exact True.intro | omega | (rw [hos]; done) | (left; rw [hos]; done)) | exact cl_)
     ·obtain rfl : k = i := by omega
      refine vc_exit ?_
      simp only [k_rules, Nat.reduceEqDiff, reduceIte, eq_self]
      refine h12 _ ?_; clear h12; try clear N12
      refine vc_seq_k fun N19 h19 => ?_
      refine u_reg ?_
      try refine lg_mk ?_
      refine u_mv ?_
      refine u_mv ?_
      refine g_mv ?_
      refine g_mv ?_
      have hc := call_rule (E := (E_divR.at_ 50)) (f := 26) (sp := Spec.pure goneG) rfl
      have hs := @goneG.eq_1
      refine g_cp ?_
      refine g_un ?_
      refine u_pk ?_
      refine lg_nil ?_
      refine h19 _ ?_; clear h19; try clear N19
      refine u_cond (fun hb20 => ?_) (fun hb20 => ?_)
      ·refine u_reg ?_
       try refine lg_mk ?_
       refine u_mv ?_
       refine u_mv ?_
       refine u_bs ?_
       refine u_ap ?_
       refine u_mv ?_
       refine lg_nil ?_
       refine h10 _ ?_; clear h10; try clear N10
       refine u_reg ?_
       try refine lg_mk ?_
       refine u_mv ?_
       refine u_bn ?_
       refine u_mv ?_
       refine lg_nil ?_
       have hls := lst_yes (f := orpB l C) (i := k) (by have := hb20; unfold orpB; show (oldP l C k k && !goneK l k) = true; simpa using this)
       refine h6 _ ⟨k + 1, ?_, ?_, [some 2], ?_⟩
       ·dsimp only
        omega
       ·dsimp only
        omega
       ·dsimp only
        refine ⟨by rfl, ?_, ?_⟩
        ·refine fin_ ?_
         (repeat' apply And.intro) <;> (first | (first | (with_reducible rfl) | exact True.intro | (rw [hls]; simp [rows, eI]; done)) | exact cl_)
        ·refine fin_ ?_
         (repeat' apply And.intro) <;> (first | (first | (with_reducible rfl) | exact True.intro | (rw [hls]; simp [rows, eI]; done)) | exact cl_)
      ·refine vc_skip ?_
       try simp only [k_rules]
       refine h10 _ ?_; clear h10; try clear N10
       refine u_reg ?_
       try refine lg_mk ?_
       refine u_mv ?_
       refine u_bn ?_
       refine u_mv ?_
       refine lg_nil ?_
       have hls := lst_no (f := orpB l C) (i := k) (by have := hb20; unfold orpB; show ¬(oldP l C k k && !goneK l k) = true; simpa using this)
       refine h6 _ ⟨k + 1, ?_, ?_, [some 0], ?_⟩
       ·dsimp only
        omega
       ·dsimp only
        omega
       ·dsimp only
        refine ⟨by rfl, ?_, ?_⟩
        ·refine fin_ ?_
         (repeat' apply And.intro) <;> (first | (first | (with_reducible rfl) | exact True.intro | (rw [hls]; done)) | exact cl_)
        ·refine fin_ ?_
         (repeat' apply And.intro) <;> (first | (first | (with_reducible rfl) | exact True.intro | (rw [hls]; done)) | exact cl_)
   ·refine vc_exit ?_
    simp only [k_rules, Nat.reduceEqDiff, reduceIte, eq_self]
    refine h4 _ ?_; clear h4; try clear N4
    refine vc_seq_k fun N21 h21 => ?_
    refine u_reg ?_
    try refine lg_mk ?_
    refine u_mv ?_
    refine u_mv ?_
    refine lg_nil ?_
    refine h21 _ ?_; clear h21; try clear N21
    refine vc_ret ?_
    try simp only [k_rules]
    obtain rfl : i = C.length := by omega
    have hr2 : orpK l C = lst C.length (orpB l C) := rfl
    rw [hr2]
    refine fin2_ ?_
    (repeat' apply And.intro) <;> (first | (first | rfl | exact Or.inl rfl | trivial | (simp; done)) | exact cl_)
 ·cases hg

def E_orpR : Env Try.prog := E_divR.add 28 (Spec.pure orpRG) orpR_meets (by kernel_rfl)

theorem mks_meets : Meets Try.prog 15 (Spec.pure mksG) := by
 refine meets_fun (E_orpR.at_ 42) Try.func15 rfl rfl rfl ?_
 intro args p r hg hp
 unfold mksG at hg
 split at hg
 ·rename_i xs ys
  simp only [Option.some.injEq, Prod.mk.injEq] at hg
  obtain ⟨rfl, rfl⟩ := hg
  obtain ⟨he, he2, hl, hl2, hsa, hsb⟩ := hp
  generalize dM xs = a at *
  generalize dM ys = b at *
  subst he he2
  have hT : (E_orpR).X = T := rfl
  have hx0 := And.intro @rect_eM (And.intro @dI_rows (And.intro @dM_rows (And.intro @dec_t (And.intro @dec_f @Try.results15))))
  have hx := hx0
  refine ⟨by rfl, ?_⟩
  intro F W0 hnp hmk
  refine vc_seq_k fun N1 h1 => ?_
  refine u_reg ?_
  try refine lg_mk ?_
  refine u_mv ?_
  refine lg_nil ?_
  refine h1 _ ?_; clear h1; try clear N1
  refine vc_seq_k fun N2 h2 => ?_
  refine vc_seq_k fun N3 h3 => ?_
  refine u_reg ?_
  try refine lg_mk ?_
  refine u_mv ?_
  refine u_ln ?_
  refine u_mv ?_
  refine u_ln ?_
  refine u_bn ?_
  refine lg_nil ?_
  refine h3 _ ?_; clear h3; try clear N3
  refine u_cond (fun hb4 => ?_) (fun hb4 => ?_)
  ·refine vc_seq_k fun N5 h5 => ?_
   refine u_reg ?_
   try refine lg_mk ?_
   refine u_mv ?_
   refine lg_nil ?_
   refine h5 _ ?_; clear h5; try clear N5
   refine vc_ret ?_
   try simp only [k_rules]
   have hr : decide (a = b) = false := decide_eq_false (fun h => by subst h; omega)
   rw [hr]
   refine fin2_ ?_
   exact cl_
  ·refine vc_skip ?_
   try simp only [k_rules]
   refine h2 _ ?_; clear h2; try clear N2
   refine vc_seq_k fun N6 h6 => ?_
   refine vc_seq_k fun N7 h7 => ?_
   refine u_reg ?_
   try refine lg_mk ?_
   refine u_mv ?_
   refine lg_nil ?_
   refine h7 _ ?_; clear h7; try clear N7
   refine vc_block ?_
   refine vc_loop_mk (σ := Nat) (fun s => (fun i => a.length = b.length ∧ i ≤ a.length ∧ a.take i = b.take i) s)
    (fun s => (fun i => [(0, .d (.sl (rows eM a))), (1, .d (.sl (rows eM b))), (5, .d (.int .i64 (i : Nat)))]) s)
    (fun s => (fun i => []) s) (fun s => (fun i => a.length - i) s) hnp 0 ?_ [] ?_ ?_
   ·dsimp only
    exact ⟨by omega, by omega, rfl⟩
   ·dsimp only
    refine ⟨by rfl, ?_, ?_⟩
    ·refine fin_ ?_
     exact cl_
    ·refine fin_ ?_
     exact cl_
   ·rintro i hinv N8 h8
    dsimp only at hinv ⊢
    obtain ⟨i0, i1, i2⟩ := hinv
    refine vc_seq_k fun N9 h9 => ?_
    refine vc_seq_k fun N10 h10 => ?_
    refine u_reg ?_
    try refine lg_mk ?_
    refine u_mv ?_
    refine u_mv ?_
    refine u_ln ?_
    refine u_bn ?_
    refine lg_nil ?_
    refine h10 _ ?_; clear h10; try clear N10
    refine u_cond (fun hb11 => ?_) (fun hb11 => ?_)
    ·obtain ⟨x, hxe⟩ := getE (l := a) (i := i) (by omega)
     obtain ⟨y, hye⟩ := getE (l := b) (i := i) (by omega)
     have hxm := hsa x (mem_at hxe)
     have hym := hsb y (mem_at hye)
     refine vc_skip ?_
     try simp only [k_rules]
     refine h9 _ ?_; clear h9; try clear N9
     refine vc_seq_k fun N12 h12 => ?_
     refine vc_block ?_
     refine vc_seq_k fun N13 h13 => ?_
     have hx := And.intro @hxe (And.intro @hye (And.intro @eM.eq_1 hx0))
     refine u_reg ?_
     try refine lg_mk ?_
     refine u_mv ?_
     refine u_mv ?_
     refine u_pt ?_
     refine u_pt ?_
     refine u_ld ?_
     refine u_mv ?_
     refine u_mv ?_
     refine u_pt ?_
     refine u_pt ?_
     refine u_ld ?_
     refine u_bn ?_
     refine u_mv ?_
     refine g_mv ?_
     refine g_mv ?_
     refine g_pt ?_
     refine g_pt ?_
     refine g_ld ?_
     refine g_mv ?_
     refine g_mv ?_
     refine g_pt ?_
     refine g_pt ?_
     refine g_ld ?_
     have hc := call_rule (E := (E_orpR.at_ 42)) (f := 19) (sp := Spec.pure intsG) rfl
     have hs := @intsG.eq_1
     refine g_cp ?_
     refine g_un ?_
     refine u_pk ?_
     refine lg_nil ?_
     have hx := hx0
     refine h13 _ ?_; clear h13; try clear N13
     refine u_cond (fun hb14 => ?_) (fun hb14 => ?_)
     ·refine vc_seq_k fun N15 h15 => ?_
      refine u_reg ?_
      try refine lg_mk ?_
      refine u_mv ?_
      refine lg_nil ?_
      refine h15 _ ?_; clear h15; try clear N15
      refine vc_ret ?_
      try simp only [k_rules]
      have hr : decide (a = b) = false := decide_eq_false (ne_at hxe hye (fun h => by subst h; have := hb14; simp at this))
      rw [hr]
      refine fin2_ ?_
      exact cl_
     ·refine vc_skip ?_
      try simp only [k_rules]
      refine h12 _ ?_; clear h12; try clear N12
      refine u_reg ?_
      try refine lg_mk ?_
      refine u_mv ?_
      refine u_bn ?_
      refine u_mv ?_
      refine lg_nil ?_
      refine h8 _ ⟨i + 1, ?_, ?_, [], ?_⟩
      ·dsimp only
       refine ⟨i0, by omega, ?_⟩
       have he : x = y := by
        have ht := hb14
        obtain ⟨xo, xn⟩ := x
        obtain ⟨yo, yn⟩ := y
        simp at ht
        rw [ht.1, ht.2]
       subst he
       exact take_at hxe hye i2
      ·dsimp only
       omega
      ·dsimp only
       refine ⟨by rfl, ?_, ?_⟩
       ·refine fin_ ?_
        exact cl_
       ·refine fin_ ?_
        exact cl_
    ·refine vc_exit ?_
     simp only [k_rules, Nat.reduceEqDiff, reduceIte, eq_self]
     refine h6 _ ?_; clear h6; try clear N6
     refine vc_seq_k fun N16 h16 => ?_
     refine u_reg ?_
     try refine lg_mk ?_
     refine u_mv ?_
     refine lg_nil ?_
     refine h16 _ ?_; clear h16; try clear N16
     refine vc_ret ?_
     try simp only [k_rules]
     have hr : decide (a = b) = true := decide_eq_true (by rw [List.take_of_length_le (by omega), List.take_of_length_le (by omega)] at i2; exact i2)
     rw [hr]
     refine fin2_ ?_
     exact cl_
 ·cases hg

def E_mks : Env Try.prog := E_orpR.add 15 (Spec.pure mksG) mks_meets (by kernel_rfl)

theorem mrg_meets : Meets Try.prog 13 (Spec.pure mrgG) := by
 refine meets_fun (E_mks.at_ 76) Try.func13 rfl rfl rfl ?_
 intro args p r hg hp
 unfold mrgG at hg
 split at hg
 ·rename_i xs ys
  simp only [Option.some.injEq, Prod.mk.injEq] at hg
  obtain ⟨rfl, rfl⟩ := hg
  obtain ⟨he, he2, hl, hl2, hsa, hsb⟩ := hp
  generalize dM xs = a at *
  generalize dM ys = b at *
  subst he he2
  have hT : (E_mks).X = T := rfl
  have hx0 := And.intro @mk_eta (And.intro @rect_eM (And.intro @dI_rows (And.intro @dM_rows (And.intro @dec_t (And.intro @dec_f @Try.results13)))))
  have hx := hx0
  refine ⟨by rfl, ?_⟩
  intro F W0 hnp hmk
  refine vc_seq_k fun N1 h1 => ?_
  refine u_reg ?_
  try refine lg_mk ?_
  refine u_mv ?_
  refine lg_nil ?_
  refine h1 _ ?_; clear h1; try clear N1
  refine vc_seq_k fun N2 h2 => ?_
  refine u_reg ?_
  try refine lg_mk ?_
  refine u_mv ?_
  refine lg_nil ?_
  refine h2 _ ?_; clear h2; try clear N2
  refine vc_seq_k fun N3 h3 => ?_
  refine u_reg ?_
  try refine lg_mk ?_
  refine u_mv ?_
  refine u_mv ?_
  refine lg_nil ?_
  refine h3 _ ?_; clear h3; try clear N3
  refine vc_seq_k fun N4 h4 => ?_
  refine vc_block ?_
  refine vc_loop_mk (σ := Nat × Nat × List Mk) (fun s => (fun i k acc => i ≤ a.length ∧ k ≤ b.length ∧ acc.length ≤ i + k ∧ mrgK a b = acc ++ mrgK (a.drop i) (b.drop k)) (s.1) (s.2.1) (s.2.2))
   (fun s => (fun i k acc => [(0, .d (.sl (rows eM a))), (1, .d (.sl (rows eM b))), (5, .sl 0 0 acc.length), (6, .d (.int .i64 (i : Nat))), (7, .d (.int .i64 (k : Nat)))]) (s.1) (s.2.1) (s.2.2))
   (fun s => (fun i k acc => [some (.vec 52 2 (rows eM acc))]) (s.1) (s.2.1) (s.2.2)) (fun s => (fun i k acc => (a.length - i) + (b.length - k)) (s.1) (s.2.1) (s.2.2)) hnp (0, 0, []) ?_ [none] ?_ ?_
  ·dsimp only
   exact ⟨by omega, by omega, by simp, by simp⟩
  ·dsimp only
   refine ⟨by rfl, ?_, ?_⟩
   ·refine fin_ ?_
    exact cl_
   ·refine fin_ ?_
    exact cl_
  ·rintro ⟨i, k, acc⟩ hinv N5 h5
   dsimp only at hinv ⊢
   obtain ⟨m1, m2, m3, m4⟩ := hinv
   refine vc_seq_k fun N6 h6 => ?_
   refine vc_seq_k fun N7 h7 => ?_
   refine u_reg ?_
   try refine lg_mk ?_
   refine u_mv ?_
   refine u_mv ?_
   refine u_ln ?_
   refine u_bn ?_
   refine u_mv ?_
   refine g_mv ?_
   refine g_mv ?_
   refine g_ln ?_
   refine g_bn ?_
   refine u_pk ?_
   refine lg_nil ?_
   refine h7 _ ?_; clear h7; try clear N7
   refine u_cond (fun hb8 => ?_) (fun hb8 => ?_)
   ·have ht := hb8
    try simp only [Bool.or_eq_true, decide_eq_true_eq] at ht
    refine vc_skip ?_
    try simp only [k_rules]
    refine h6 _ ?_; clear h6; try clear N6
    refine vc_block ?_
    refine vc_seq_k fun N9 h9 => ?_
    refine vc_seq_k fun N10 h10 => ?_
    rcases Nat.lt_or_ge i a.length with hia | hia <;> rcases Nat.lt_or_ge k b.length with hkb | hkb
    ·have hke : decide ((k : Int) = (b.length : Int)) = false := decide_eq_false (by omega)
     have hie : decide ((i : Int) < (a.length : Int)) = true := decide_eq_true (by omega)
     obtain ⟨x, hxe⟩ := getE (l := a) (i := i) (by omega)
     have hxm := hsa x (mem_at hxe)
     obtain ⟨y, hye⟩ := getE (l := b) (i := k) (by omega)
     have hym := hsb y (mem_at hye)
     have hx := And.intro @hke (And.intro @hie (And.intro @hxe (And.intro @hye (And.intro @eM.eq_1 hx0))))
     refine u_reg ?_
     try refine lg_mk ?_
     refine u_mv ?_
     refine u_mv ?_
     refine u_ln ?_
     refine u_bn ?_
     refine u_mv ?_
     refine g_mv ?_
     refine g_mv ?_
     refine g_ln ?_
     refine g_bn ?_
     refine g_mv ?_
     refine g_mv ?_
     refine g_mv ?_
     refine g_pt ?_
     refine g_ld ?_
     refine g_mv ?_
     refine g_mv ?_
     refine g_pt ?_
     refine g_ld ?_
     have hc := call_rule (E := (E_mks.at_ 76)) (f := 38) (sp := Spec.pure lessKG) rfl
     have hs := @lessKG.eq_1
     refine g_cp ?_
     refine g_pk ?_
     refine u_pk ?_
     refine lg_nil ?_
     have hx := hx0
     refine h10 _ ?_; clear h10; try clear N10
     refine u_cond (fun hb11 => ?_) (fun hb11 => ?_)
     ·refine vc_seq_k fun N12 h12 => ?_
      have hx := And.intro @hxe (And.intro @eM.eq_1 hx0)
      refine u_reg ?_
      try refine lg_mk ?_
      refine u_mv ?_
      refine u_mv ?_
      refine u_mv ?_
      refine u_pt ?_
      refine u_ld ?_
      refine u_bs ?_
      refine u_ap ?_
      refine u_mv ?_
      refine lg_nil ?_
      have hx := hx0
      refine h12 _ ?_; clear h12; try clear N12
      refine vc_seq_k fun N13 h13 => ?_
      refine u_reg ?_
      try refine lg_mk ?_
      refine u_mv ?_
      refine u_bn ?_
      refine u_mv ?_
      refine lg_nil ?_
      refine h13 _ ?_; clear h13; try clear N13
      refine vc_exit ?_
      simp only [k_rules, Nat.reduceEqDiff, reduceIte, eq_self]
      refine h5 _ ⟨(i + 1, k, acc ++ [x]), ?_, ?_, [some 2], ?_⟩
      ·dsimp only
       refine ⟨by omega, by omega, by simp; omega, ?_⟩
       rw [m4, mrgK_lt hxe hye hb11]; simp
      ·dsimp only
       omega
      ·dsimp only
       refine ⟨by rfl, ?_, ?_⟩
       ·refine fin_ ?_
        (repeat' apply And.intro) <;> (first | (first | (with_reducible rfl) | exact True.intro | (simp [rows, eM]; done) | (rw [← eM_snoc]; simp; done)) | exact cl_)
       ·refine fin_ ?_
        (repeat' apply And.intro) <;> (first | (first | (with_reducible rfl) | exact True.intro | (simp [rows, eM]; done) | (rw [← eM_snoc]; simp; done)) | exact cl_)
     ·refine vc_skip ?_
      try simp only [k_rules]
      refine h9 _ ?_; clear h9; try clear N9
      refine vc_seq_k fun N14 h14 => ?_
      refine vc_seq_k fun N15 h15 => ?_
      have hx := And.intro @hke (And.intro @hie (And.intro @hxe (And.intro @hye (And.intro @eM.eq_1 hx0))))
      refine u_reg ?_
      try refine lg_mk ?_
      refine u_mv ?_
      refine u_mv ?_
      refine u_ln ?_
      refine u_bn ?_
      refine u_mv ?_
      refine g_mv ?_
      refine g_mv ?_
      refine g_pt ?_
      refine g_ld ?_
      refine g_mv ?_
      refine g_mv ?_
      refine g_pt ?_
      refine g_ld ?_
      have hc := call_rule (E := (E_mks.at_ 76)) (f := 38) (sp := Spec.pure lessKG) rfl
      have hs := @lessKG.eq_1
      refine g_cp ?_
      refine g_un ?_
      refine u_pk ?_
      refine lg_nil ?_
      have hx := hx0
      refine h15 _ ?_; clear h15; try clear N15
      refine u_cond (fun hb16 => ?_) (fun hb16 => ?_)
      ·refine u_reg ?_
       try refine lg_mk ?_
       refine u_mv ?_
       refine u_bn ?_
       refine u_mv ?_
       refine lg_nil ?_
       refine h14 _ ?_; clear h14; try clear N14
       refine vc_seq_k fun N17 h17 => ?_
       have hx := And.intro @hye (And.intro @eM.eq_1 hx0)
       refine u_reg ?_
       try refine lg_mk ?_
       refine u_mv ?_
       refine u_mv ?_
       refine u_mv ?_
       refine u_pt ?_
       refine u_ld ?_
       refine u_bs ?_
       refine u_ap ?_
       refine u_mv ?_
       refine lg_nil ?_
       have hx := hx0
       refine h17 _ ?_; clear h17; try clear N17
       refine u_reg ?_
       try refine lg_mk ?_
       refine u_mv ?_
       refine u_bn ?_
       refine u_mv ?_
       refine lg_nil ?_
       refine h5 _ ⟨(i + 1, k + 1, acc ++ [y]), ?_, ?_, [some 2], ?_⟩
       ·dsimp only
        refine ⟨by omega, by omega, by simp; omega, ?_⟩
        rw [m4, mrgK_eq hxe hye hb11 (by have := hb16; simpa using this)]; simp
       ·dsimp only
        omega
       ·dsimp only
        refine ⟨by rfl, ?_, ?_⟩
        ·refine fin_ ?_
         (repeat' apply And.intro) <;> (first | (first | (with_reducible rfl) | exact True.intro | (simp [rows, eM]; done) | (rw [← eM_snoc]; simp; done)) | exact cl_)
        ·refine fin_ ?_
         (repeat' apply And.intro) <;> (first | (first | (with_reducible rfl) | exact True.intro | (simp [rows, eM]; done) | (rw [← eM_snoc]; simp; done)) | exact cl_)
      ·refine vc_skip ?_
       try simp only [k_rules]
       refine h14 _ ?_; clear h14; try clear N14
       refine vc_seq_k fun N18 h18 => ?_
       have hx := And.intro @hye (And.intro @eM.eq_1 hx0)
       refine u_reg ?_
       try refine lg_mk ?_
       refine u_mv ?_
       refine u_mv ?_
       refine u_mv ?_
       refine u_pt ?_
       refine u_ld ?_
       refine u_bs ?_
       refine u_ap ?_
       refine u_mv ?_
       refine lg_nil ?_
       have hx := hx0
       refine h18 _ ?_; clear h18; try clear N18
       refine u_reg ?_
       try refine lg_mk ?_
       refine u_mv ?_
       refine u_bn ?_
       refine u_mv ?_
       refine lg_nil ?_
       refine h5 _ ⟨(i, k + 1, acc ++ [y]), ?_, ?_, [some 2], ?_⟩
       ·dsimp only
        refine ⟨by omega, by omega, by simp; omega, ?_⟩
        rw [m4, mrgK_gt hxe hye hb11 (by have := hb16; simpa using this)]; simp
       ·dsimp only
        omega
       ·dsimp only
        refine ⟨by rfl, ?_, ?_⟩
        ·refine fin_ ?_
         (repeat' apply And.intro) <;> (first | (first | (with_reducible rfl) | exact True.intro | (simp [rows, eM]; done) | (rw [← eM_snoc]; simp; done)) | exact cl_)
        ·refine fin_ ?_
         (repeat' apply And.intro) <;> (first | (first | (with_reducible rfl) | exact True.intro | (simp [rows, eM]; done) | (rw [← eM_snoc]; simp; done)) | exact cl_)
    ·have hke : decide ((k : Int) = (b.length : Int)) = true := decide_eq_true (by omega)
     obtain ⟨x, hxe⟩ := getE (l := a) (i := i) (by omega)
     have hxm := hsa x (mem_at hxe)
     have hye := hke
     have hie := hke
     have hx := And.intro @hke (And.intro @hie (And.intro @hxe (And.intro @hye (And.intro @eM.eq_1 hx0))))
     refine u_reg ?_
     try refine lg_mk ?_
     refine u_mv ?_
     refine u_mv ?_
     refine u_ln ?_
     refine u_bn ?_
     refine u_mv ?_
     refine g_mv ?_
     refine g_mv ?_
     refine g_ln ?_
     refine g_bn ?_
     refine g_mv ?_
     refine g_mv ?_
     refine g_mv ?_
     refine g_pt ?_
     refine g_ld ?_
     refine g_mv ?_
     refine g_mv ?_
     refine g_pt ?_
     refine g_ld ?_
     have hc := call_rule (E := (E_mks.at_ 76)) (f := 38) (sp := Spec.pure lessKG) rfl
     have hs := @lessKG.eq_1
     refine g_cp ?_
     refine g_pk ?_
     refine u_pk ?_
     refine lg_nil ?_
     have hx := hx0
     refine h10 _ ?_; clear h10; try clear N10
     refine u_cond (fun hb19 => ?_) (fun hb19 => ?_)
     ·refine vc_seq_k fun N20 h20 => ?_
      have hx := And.intro @hxe (And.intro @eM.eq_1 hx0)
      refine u_reg ?_
      try refine lg_mk ?_
      refine u_mv ?_
      refine u_mv ?_
      refine u_mv ?_
      refine u_pt ?_
      refine u_ld ?_
      refine u_bs ?_
      refine u_ap ?_
      refine u_mv ?_
      refine lg_nil ?_
      have hx := hx0
      refine h20 _ ?_; clear h20; try clear N20
      refine vc_seq_k fun N21 h21 => ?_
      refine u_reg ?_
      try refine lg_mk ?_
      refine u_mv ?_
      refine u_bn ?_
      refine u_mv ?_
      refine lg_nil ?_
      refine h21 _ ?_; clear h21; try clear N21
      refine vc_exit ?_
      simp only [k_rules, Nat.reduceEqDiff, reduceIte, eq_self]
      refine h5 _ ⟨(i + 1, k, acc ++ [x]), ?_, ?_, [some 2], ?_⟩
      ·dsimp only
       refine ⟨by omega, by omega, by simp; omega, ?_⟩
       rw [m4, mrgK_l hxe hkb]; simp
      ·dsimp only
       omega
      ·dsimp only
       refine ⟨by rfl, ?_, ?_⟩
       ·refine fin_ ?_
        (repeat' apply And.intro) <;> (first | (first | (with_reducible rfl) | exact True.intro | (simp [rows, eM]; done) | (rw [← eM_snoc]; simp; done)) | exact cl_)
       ·refine fin_ ?_
        (repeat' apply And.intro) <;> (first | (first | (with_reducible rfl) | exact True.intro | (simp [rows, eM]; done) | (rw [← eM_snoc]; simp; done)) | exact cl_)
     ·first | omega | exact absurd trivial hb19 | contradiction | (simp_all; done)
    ·have hke : decide ((k : Int) = (b.length : Int)) = false := decide_eq_false (by omega)
     have hie : decide ((i : Int) < (a.length : Int)) = false := decide_eq_false (by omega)
     obtain ⟨y, hye⟩ := getE (l := b) (i := k) (by omega)
     have hym := hsb y (mem_at hye)
     have hxe := hke
     have hx := And.intro @hke (And.intro @hie (And.intro @hxe (And.intro @hye (And.intro @eM.eq_1 hx0))))
     refine u_reg ?_
     try refine lg_mk ?_
     refine u_mv ?_
     refine u_mv ?_
     refine u_ln ?_
     refine u_bn ?_
     refine u_mv ?_
     refine g_mv ?_
     refine g_mv ?_
     refine g_ln ?_
     refine g_bn ?_
     refine g_mv ?_
     refine g_mv ?_
     refine g_mv ?_
     refine g_pt ?_
     refine g_ld ?_
     refine g_mv ?_
     refine g_mv ?_
     refine g_pt ?_
     refine g_ld ?_
     have hc := call_rule (E := (E_mks.at_ 76)) (f := 38) (sp := Spec.pure lessKG) rfl
     have hs := @lessKG.eq_1
     refine g_cp ?_
     refine g_pk ?_
     refine u_pk ?_
     refine lg_nil ?_
     have hx := hx0
     refine h10 _ ?_; clear h10; try clear N10
     refine u_cond (fun hb22 => ?_) (fun hb22 => ?_)
     ·first | omega | exact absurd trivial hb22 | contradiction | (simp_all; done)
     ·refine vc_skip ?_
      try simp only [k_rules]
      refine h9 _ ?_; clear h9; try clear N9
      refine vc_seq_k fun N23 h23 => ?_
      refine vc_seq_k fun N24 h24 => ?_
      have hx := And.intro @hke (And.intro @hie (And.intro @hxe (And.intro @hye (And.intro @eM.eq_1 hx0))))
      refine u_reg ?_
      try refine lg_mk ?_
      refine u_mv ?_
      refine u_mv ?_
      refine u_ln ?_
      refine u_bn ?_
      refine u_mv ?_
      refine g_mv ?_
      refine g_mv ?_
      refine g_pt ?_
      refine g_ld ?_
      refine g_mv ?_
      refine g_mv ?_
      refine g_pt ?_
      refine g_ld ?_
      have hc := call_rule (E := (E_mks.at_ 76)) (f := 38) (sp := Spec.pure lessKG) rfl
      have hs := @lessKG.eq_1
      refine g_cp ?_
      refine g_un ?_
      refine u_pk ?_
      refine lg_nil ?_
      have hx := hx0
      refine h24 _ ?_; clear h24; try clear N24
      refine u_cond (fun hb25 => ?_) (fun hb25 => ?_)
      ·first | omega | exact absurd trivial hb25 | contradiction | (simp_all; done)
      ·refine vc_skip ?_
       try simp only [k_rules]
       refine h23 _ ?_; clear h23; try clear N23
       refine vc_seq_k fun N26 h26 => ?_
       have hx := And.intro @hye (And.intro @eM.eq_1 hx0)
       refine u_reg ?_
       try refine lg_mk ?_
       refine u_mv ?_
       refine u_mv ?_
       refine u_mv ?_
       refine u_pt ?_
       refine u_ld ?_
       refine u_bs ?_
       refine u_ap ?_
       refine u_mv ?_
       refine lg_nil ?_
       have hx := hx0
       refine h26 _ ?_; clear h26; try clear N26
       refine u_reg ?_
       try refine lg_mk ?_
       refine u_mv ?_
       refine u_bn ?_
       refine u_mv ?_
       refine lg_nil ?_
       refine h5 _ ⟨(i, k + 1, acc ++ [y]), ?_, ?_, [some 2], ?_⟩
       ·dsimp only
        refine ⟨by omega, by omega, by simp; omega, ?_⟩
        rw [m4, mrgK_r hye hia]; simp
       ·dsimp only
        omega
       ·dsimp only
        refine ⟨by rfl, ?_, ?_⟩
        ·refine fin_ ?_
         (repeat' apply And.intro) <;> (first | (first | (with_reducible rfl) | exact True.intro | (simp [rows, eM]; done) | (rw [← eM_snoc]; simp; done)) | exact cl_)
        ·refine fin_ ?_
         (repeat' apply And.intro) <;> (first | (first | (with_reducible rfl) | exact True.intro | (simp [rows, eM]; done) | (rw [← eM_snoc]; simp; done)) | exact cl_)
    ·exact absurd ht (by omega)
   ·refine vc_exit ?_
    simp only [k_rules, Nat.reduceEqDiff, reduceIte, eq_self]
    refine h4 _ ?_; clear h4; try clear N4
    refine vc_seq_k fun N27 h27 => ?_
    refine u_reg ?_
    try refine lg_mk ?_
    refine u_mv ?_
    refine u_mv ?_
    refine lg_nil ?_
    refine h27 _ ?_; clear h27; try clear N27
    refine vc_ret ?_
    try simp only [k_rules]
    have ht := hb8
    try simp only [Bool.or_eq_true, decide_eq_true_eq, not_or] at ht
    have hr2 : mrgK a b = acc := by rw [m4, List.drop_eq_nil_of_le (by omega), List.drop_eq_nil_of_le (by omega), mrgK_nill, List.append_nil]
    rw [hr2]
    refine fin2_ ?_
    (repeat' apply And.intro) <;> (first | (first | rfl | exact Or.inl rfl | trivial | (simp; done)) | exact cl_)
 ·cases hg

def E_mrg : Env Try.prog := E_mks.add 13 (Spec.pure mrgG) mrg_meets (by kernel_rfl)
end Go.Proofs.Ytjpkgmmmmcgmeaa
