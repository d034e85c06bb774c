/- Walks, printed by wip/gen/walk.py. -/
import Derived.Test.YtlbjffdaooadoaaDoorT15
import Derived.Test.YtlbjffdaooadoaaDoorV5
set_option linter.all false
set_option maxRecDepth 100000
set_option maxHeartbeats 4000000
namespace Go.Proofs.YtlbjffdaooadoaaDoor
open Go Go.Vc Go.RowKit
def fnB (b : List Bool) : Nat → Bool := fun k => b.getD k false
theorem vec_fnB {b : List Bool} {n : Nat} (h : b.length = n) : vec n (fnB b) = b := by
  apply List.ext_getElem?
  intro j
  by_cases hj : j < n
  · rw [vec_get hj]
    unfold fnB
    rw [List.getD_eq_getElem?_getD, List.getElem?_eq_getElem (by omega)]; rfl
  · rw [List.getElem?_eq_none (by rw [vec_len]; omega), List.getElem?_eq_none (by omega)]
def desJ (g : Nat → Bool) (i : Nat) (ps : List Int) (j : Nat) : Bool := g i || (ps.take j).any fun p => g p.toNat
def desK (l : List Cm) (f : Nat → Bool) : Nat → Nat → Bool
  | 0 => f
  | i + 1 => setB (desK l f i) i (desJ (desK l f i) i (l.getD i default).par (l.getD i default).par.length)
theorem desJ_zero (g : Nat → Bool) (i : Nat) (ps : List Int) : setB g i (desJ g i ps 0) = g := by
  funext k
  unfold setB desJ
  split
  · rename_i h; subst h; simp
  · rfl
theorem desJ_snoc {g : Nat → Bool} {i : Nat} {ps : List Int} {j : Nat} {p : Int} (h : ps[j]? = some p) : desJ g i ps (j + 1) = (desJ g i ps j || g p.toNat) := by
  unfold desJ; rw [any_snoc h, Bool.or_assoc]
theorem setB_set (g : Nat → Bool) (i : Nat) (x y : Bool) : setB (setB g i x) i y = setB g i y := by
  funext k; unfold setB; split <;> simp_all
theorem setB_at (g : Nat → Bool) (i : Nat) (x : Bool) : setB g i x i = x := by unfold setB; rw [if_pos rfl]
theorem setB_of (g : Nat → Bool) {i k : Nat} (x : Bool) (h : k ≠ i) : setB g i x k = g k := by unfold setB; rw [if_neg h]
def desG : List AV → Option (Prop × AV)
  | [.d (.sl xs), .d (.sl ys)] => some (xs = rows eC (dC xs) ∧ Valid (dC xs) ∧ ys = rows eB (dB ys) ∧ (dB ys).length = (dC xs).length, .d (.sl (rows eB (vec (dC xs).length (desK (dC xs) (fnB (dB ys)) (dC xs).length)))))
  | _ => none

theorem desq_meets : Meets Tryd.prog 73 (Spec.pure desG) := by
 refine meets_fun (E_of.at_ 42) Tryd.func73 rfl rfl rfl ?_
 intro args p r hg hp
 unfold desG at hg
 split at hg
 rename_i xs ys
 simp only [Option.some.injEq, Prod.mk.injEq] at hg
 obtain ⟨rfl, rfl⟩ := hg
 obtain ⟨he, hv, he2, hbl⟩ := hp
 generalize dC xs = l at *
 generalize dB ys = b at *
 subst he he2
 have hl60 := hv.len
 have hb0 : vec l.length (fnB b) = b := vec_fnB hbl
 have hbt : b.take b.length = b := List.take_length
 have hT : (E_of).X = T := rfl
 have hx0 := And.intro @rect_eC (And.intro @dB_rows (And.intro @vec_len @Tryd.results73))
 have hx := hx0
 refine ⟨by rfl, ?_⟩
 intro F W0 hnp hmk
 refine vc_seq_k fun N1 h1 => ?_
 refine u_reg ?_
 try refine lg_mk ?_
 refine u_mv ?_
 refine lg_nil ?_
 refine h1 _ ?_; clear h1; try clear N1
 refine vc_seq_k fun N2 h2 => ?_
 refine u_reg ?_
 try refine lg_mk ?_
 refine u_mv ?_
 refine u_ap ?_
 refine u_mv ?_
 refine lg_nil ?_
 refine h2 _ ?_; clear h2; try clear N2
 refine vc_seq_k fun N3 h3 => ?_
 refine vc_seq_k fun N4 h4 => ?_
 refine u_reg ?_
 try refine lg_mk ?_
 refine u_mv ?_
 refine u_ln ?_
 refine u_mv ?_
 refine lg_nil ?_
 refine h4 _ ?_; clear h4; try clear N4
 refine vc_block ?_
 refine vc_loop_mk (σ := Nat) (fun s => (fun i => i ≤ l.length) s)
  (fun s => (fun i => [(0, .d (.sl (rows eC l))), (1, .d (.sl (rows eB b))), (5, .sl 0 0 l.length), (12, .d (.sl (rows eC l))), (13, .d (.int .i64 (l.length : Nat))), (14, .d (.int .i64 (i : Nat)))]) s)
  (fun s => (fun i => [some (.vec 4 1 (rows eB (vec l.length (desK l (fnB b) i))))]) s) (fun s => (fun i => l.length - i) s) hnp 0 ?_ [some 0] ?_ ?_
 dsimp only
 omega
 dsimp only
 refine ⟨by rfl, ?_, ?_⟩
 refine fin_ ?_
 ·(repeat' apply And.intro) <;> (first | (first | rfl | trivial | omega | (show _ = rows eB (vec l.length (fnB b)); rw [hb0]; done) | (show _ = rows eB (vec l.length (fnB b)); rw [hb0, hbt]; done)) | exact cl_)
 refine fin_ ?_
 ·(repeat' apply And.intro) <;> (first | (first | rfl | trivial | omega | (show _ = rows eB (vec l.length (fnB b)); rw [hb0]; done) | (show _ = rows eB (vec l.length (fnB b)); rw [hb0, hbt]; done)) | exact cl_)
 rintro i hinv N5 h5
 dsimp only at hinv ⊢
 have i1 := hinv
 refine vc_seq_k fun N6 h6 => ?_
 refine u_reg ?_
 try refine lg_mk ?_
 refine u_bn ?_
 refine lg_nil ?_
 refine h6 _ ?_; clear h6; try clear N6
 refine vc_seq_k fun N7 h7 => ?_
 refine u_cond (fun hb8 => ?_) (fun hb8 => ?_)
 have hil : i < l.length := by have := hb8; omega
 obtain ⟨c, hce⟩ := getE (l := l) (i := i) hil
 have hcd : l.getD i default = c := by rw [List.getD_eq_getElem?_getD, hce]; rfl
 have hz := desJ_zero (desK l (fnB b) i) i c.par
 have hc3 := hv.few hce
 refine vc_skip ?_
 try simp only [k_rules]
 refine h7 _ ?_; clear h7; try clear N7
 refine vc_seq_k fun N9 h9 => ?_
 refine vc_block ?_
 refine vc_seq_k fun N10 h10 => ?_
 have hx := And.intro @hce (And.intro @eC.eq_1 hx0)
 refine u_reg ?_
 try refine lg_mk ?_
 refine u_mv ?_
 refine u_pt ?_
 refine u_ld ?_
 refine u_al ?_
 refine u_mv ?_
 refine u_st ?_
 refine lg_nil ?_
 have hx := hx0
 refine h10 _ ?_; clear h10; try clear N10
 refine vc_seq_k fun N11 h11 => ?_
 refine u_reg ?_
 try refine lg_mk ?_
 refine u_pt ?_
 refine u_ld ?_
 refine u_ln ?_
 refine u_mv ?_
 refine lg_nil ?_
 refine h11 _ ?_; clear h11; try clear N11
 refine vc_block ?_
 refine vc_loop_mk (σ := Nat) (fun s => (fun j => j ≤ c.par.length) s)
  (fun s => (fun j => [(0, .d (.sl (rows eC l))), (1, .d (.sl (rows eB b))), (5, .sl 0 0 l.length), (6, .d (.int .i64 (i : Nat))), (12, .d (.sl (rows eC l))), (13, .d (.int .i64 (l.length : Nat))), (14, .d (.int .i64 (i : Nat))), (20, .d (.sl (rows eI c.par))), (21, .d (.int .i64 (c.par.length : Nat))), (22, .d (.int .i64 (j : Nat)))]) s)
  (fun s => (fun j => [some (.vec 4 1 (rows eB (vec l.length (setB (desK l (fnB b) i) i (desJ (desK l (fnB b) i) i c.par j)))))]) s) (fun s => (fun j => c.par.length - j) s) hnp 0 ?_ [some 0] ?_ ?_
 dsimp only
 omega
 dsimp only
 refine ⟨by rfl, ?_, ?_⟩
 refine fin_ ?_
 ·(repeat' apply And.intro) <;> (first | (first | rfl | trivial | omega | (rw [hz]; done)) | exact cl_)
 refine fin_ ?_
 ·(repeat' apply And.intro) <;> (first | (first | rfl | trivial | omega | (rw [hz]; done)) | exact cl_)
 rintro j hinv N12 h12
 dsimp only at hinv ⊢
 have j1 := hinv
 refine vc_seq_k fun N13 h13 => ?_
 refine u_reg ?_
 try refine lg_mk ?_
 refine u_bn ?_
 refine lg_nil ?_
 refine h13 _ ?_; clear h13; try clear N13
 refine vc_seq_k fun N14 h14 => ?_
 refine u_cond (fun hb15 => ?_) (fun hb15 => ?_)
 obtain ⟨p, hpe⟩ := getE (l := c.par) (i := j) (by have := hb15; omega)
 have hpr := hv.par hce hpe
 have hsn := desJ_snoc (g := desK l (fnB b) i) (i := i) hpe
 have hg1 : (vec l.length (setB (desK l (fnB b) i) i (desJ (desK l (fnB b) i) i c.par j)))[i]? = some (desJ (desK l (fnB b) i) i c.par j) := by rw [vec_get hil, setB_at]
 have hg2 : (vec l.length (setB (desK l (fnB b) i) i (desJ (desK l (fnB b) i) i c.par j)))[p.toNat]? = some (desK l (fnB b) i p.toNat) := by rw [vec_get (by omega), setB_of _ _ (by omega)]
 have hst : ∀ w, (vec l.length (setB (desK l (fnB b) i) i (desJ (desK l (fnB b) i) i c.par j))).set i w = vec l.length (setB (desK l (fnB b) i) i w) := fun w => by rw [vec_set, setB_set]
 refine vc_skip ?_
 try simp only [k_rules]
 refine h14 _ ?_; clear h14; try clear N14
 refine vc_seq_k fun N16 h16 => ?_
 refine vc_block ?_
 refine vc_seq_k fun N17 h17 => ?_
 have hx := And.intro @hpe (And.intro @eI.eq_1 hx0)
 refine u_reg ?_
 try refine lg_mk ?_
 refine u_pt ?_
 refine u_ld ?_
 refine u_mv ?_
 refine lg_nil ?_
 have hx := hx0
 refine h17 _ ?_; clear h17; try clear N17
 rcases (show desJ (desK l (fnB b) i) i c.par j = true ∨ desJ (desK l (fnB b) i) i c.par j = false by cases desJ (desK l (fnB b) i) i c.par j <;> simp) with hj1 | hj1
 rw [hj1] at hg1 hg2 hst
 have hs1 : desJ (desK l (fnB b) i) i c.par (j + 1) = true := by rw [hsn, hj1]; rfl
 have hx := And.intro @hj1 (And.intro @hg1 (And.intro @hg2 (And.intro @eB.eq_1 hx0)))
 refine u_reg ?_
 try refine lg_mk ?_
 iterate 4 refine u_mv ?_
 refine u_pt ?_
 refine u_ld ?_
 refine u_mv ?_
 iterate 2 refine g_mv ?_
 refine g_pt ?_
 refine g_ld ?_
 refine u_pk ?_
 refine u_pt ?_
 refine u_st ?_
 refine lg_nil ?_
 have hx := hx0
 refine h16 _ ?_; clear h16; try clear N16
 refine u_reg ?_
 try refine lg_mk ?_
 refine u_bn ?_
 refine u_mv ?_
 refine lg_nil ?_
 refine h12 _ ⟨j + 1, ?_, ?_, [some 0], ?_⟩
 dsimp only
 omega
 dsimp only
 omega
 dsimp only
 refine ⟨by rfl, ?_, ?_⟩
 refine fin_ ?_
 ·(repeat' apply And.intro) <;> (first | (first | rfl | trivial | omega | (rw [hs1, ← hst (desK l (fnB b) i p.toNat)]; simp [rows, eB]; done) | (rw [hs1, ← hst]; simp [rows, eB]; done) | (rw [hs1, ← hst, rows_set]; done)) | exact cl_)
 refine fin_ ?_
 ·(repeat' apply And.intro) <;> (first | (first | rfl | trivial | omega | (rw [hs1, ← hst (desK l (fnB b) i p.toNat)]; simp [rows, eB]; done) | (rw [hs1, ← hst]; simp [rows, eB]; done) | (rw [hs1, ← hst, rows_set]; done)) | exact cl_)
 rw [hj1] at hg1 hg2 hst
 have hs1 : desJ (desK l (fnB b) i) i c.par (j + 1) = desK l (fnB b) i p.toNat := by rw [hsn, hj1]; rfl
 have hx := And.intro @hj1 (And.intro @hg1 (And.intro @hg2 (And.intro @eB.eq_1 hx0)))
 refine u_reg ?_
 try refine lg_mk ?_
 iterate 4 refine u_mv ?_
 refine u_pt ?_
 refine u_ld ?_
 refine u_mv ?_
 iterate 2 refine g_mv ?_
 refine g_pt ?_
 refine g_ld ?_
 refine u_pk ?_
 refine u_pt ?_
 refine u_st ?_
 refine lg_nil ?_
 have hx := hx0
 refine h16 _ ?_; clear h16; try clear N16
 refine u_reg ?_
 try refine lg_mk ?_
 refine u_bn ?_
 refine u_mv ?_
 refine lg_nil ?_
 refine h12 _ ⟨j + 1, ?_, ?_, [some 0], ?_⟩
 dsimp only
 omega
 dsimp only
 omega
 dsimp only
 refine ⟨by rfl, ?_, ?_⟩
 refine fin_ ?_
 ·(repeat' apply And.intro) <;> (first | (first | rfl | trivial | omega | (rw [hs1, ← hst (desK l (fnB b) i p.toNat)]; simp [rows, eB]; done) | (rw [hs1, ← hst]; simp [rows, eB]; done) | (rw [hs1, ← hst, rows_set]; done)) | exact cl_)
 refine fin_ ?_
 ·(repeat' apply And.intro) <;> (first | (first | rfl | trivial | omega | (rw [hs1, ← hst (desK l (fnB b) i p.toNat)]; simp [rows, eB]; done) | (rw [hs1, ← hst]; simp [rows, eB]; done) | (rw [hs1, ← hst, rows_set]; done)) | exact cl_)
 obtain rfl : j = c.par.length := by have := hb15; omega
 have hds : desK l (fnB b) (i + 1) = setB (desK l (fnB b) i) i (desJ (desK l (fnB b) i) i c.par c.par.length) := by rw [← hcd]; rfl
 refine vc_exit ?_
 simp only [k_rules, Nat.reduceEqDiff, reduceIte, eq_self]
 refine h9 _ ?_; clear h9; try clear N9
 refine u_reg ?_
 try refine lg_mk ?_
 refine u_bn ?_
 refine u_mv ?_
 refine lg_nil ?_
 refine h5 _ ⟨i + 1, ?_, ?_, [some 0], ?_⟩
 dsimp only
 omega
 dsimp only
 omega
 dsimp only
 refine ⟨by rfl, ?_, ?_⟩
 refine fin_ ?_
 ·(repeat' apply And.intro) <;> (first | (first | rfl | trivial | omega | (rw [hds]; done)) | exact cl_)
 refine fin_ ?_
 ·(repeat' apply And.intro) <;> (first | (first | rfl | trivial | omega | (rw [hds]; done)) | exact cl_)
 obtain rfl : i = l.length := by have := hb8; omega
 have hvt : (vec l.length (desK l (fnB b) l.length)).take l.length = vec l.length (desK l (fnB b) l.length) := List.take_of_length_le (by rw [vec_len]; exact Nat.le_refl _)
 refine vc_exit ?_
 simp only [k_rules, Nat.reduceEqDiff, reduceIte, eq_self]
 refine h3 _ ?_; clear h3; try clear N3
 refine vc_seq_k fun N18 h18 => ?_
 refine u_reg ?_
 try refine lg_mk ?_
 iterate 2 refine u_mv ?_
 refine lg_nil ?_
 refine h18 _ ?_; clear h18; try clear N18
 refine vc_ret ?_
 try simp only [k_rules]
 refine fin2_ ?_
 ·(repeat' apply And.intro) <;> (first | (first | rfl | trivial | omega | (rw [hvt]; done) | (left; rw [hvt]; done) | (rw [rows_len, vec_len]; omega)) | exact cl_)
 cases hg

def E_desq : Env Tryd.prog := E_of.add 73 (Spec.pure desG) desq_meets (by kernel_rfl)

def boolsG : List AV → Option (Prop × AV)
  | [.d (.sl xs), .d (.sl ys)] => some (xs = rows eB (dB xs) ∧ ys = rows eB (dB ys) ∧ (dB xs).length ≤ 9223372036854775807 ∧ (dB ys).length ≤ 9223372036854775807, .d (.bool (decide (dB xs = dB ys))))
  | _ => none

theorem bools_meets : Meets Tryd.prog 27 (Spec.pure boolsG) := by
 refine meets_fun (E_desq.at_ 26) Tryd.func27 rfl rfl rfl ?_
 intro args p r hg hp
 unfold boolsG at hg
 split at hg
 rename_i xs ys
 simp only [Option.some.injEq, Prod.mk.injEq] at hg
 obtain ⟨rfl, rfl⟩ := hg
 obtain ⟨hx, hy, hl, hm⟩ := hp
 generalize dB xs = l at *
 generalize dB ys = m at *
 subst hx hy
 have hT : (E_desq).X = T := rfl
 have hx0 := And.intro @dB_rows @Tryd.results27
 have hx := hx0
 refine ⟨by rfl, ?_⟩
 intro F W0 hnp hmk
 refine vc_seq_k fun N1 h1 => ?_
 refine u_reg ?_
 try refine lg_mk ?_
 refine u_mv ?_
 refine lg_nil ?_
 refine h1 _ ?_; clear h1; try clear N1
 refine vc_seq_k fun N2 h2 => ?_
 refine vc_seq_k fun N3 h3 => ?_
 refine u_reg ?_
 try refine lg_mk ?_
 refine u_mv ?_
 refine u_ln ?_
 refine u_mv ?_
 refine u_ln ?_
 refine u_bn ?_
 refine lg_nil ?_
 refine h3 _ ?_; clear h3; try clear N3
 refine u_cond (fun hb4 => ?_) (fun hb4 => ?_)
 refine vc_seq_k fun N5 h5 => ?_
 refine u_reg ?_
 try refine lg_mk ?_
 refine u_mv ?_
 refine lg_nil ?_
 refine h5 _ ?_; clear h5; try clear N5
 refine vc_ret ?_
 try simp only [k_rules]
 have hr : decide (l = m) = false := decide_eq_false (fun h => by subst h; omega)
 rw [hr]
 refine fin2_ ?_
 exact cl_
 refine vc_skip ?_
 try simp only [k_rules]
 refine h2 _ ?_; clear h2; try clear N2
 refine vc_seq_k fun N6 h6 => ?_
 refine vc_seq_k fun N7 h7 => ?_
 refine u_reg ?_
 try refine lg_mk ?_
 refine u_mv ?_
 refine lg_nil ?_
 refine h7 _ ?_; clear h7; try clear N7
 refine vc_block ?_
 refine vc_loop_mk (σ := Nat) (fun s => (fun i => l.length = m.length ∧ i ≤ l.length ∧ l.take i = m.take i) s)
  (fun s => (fun i => [(0, .d (.sl (rows eB l))), (1, .d (.sl (rows eB m))), (5, .d (.int .i64 (i : Nat)))]) s)
  (fun s => (fun i => []) s) (fun s => (fun i => l.length - i) s) hnp 0 ?_ [] ?_ ?_
 dsimp only
 refine ⟨by omega, by omega, rfl⟩
 dsimp only
 refine ⟨by rfl, ?_, ?_⟩
 refine fin_ ?_
 exact cl_
 refine fin_ ?_
 exact cl_
 rintro i hinv N8 h8
 dsimp only at hinv ⊢
 obtain ⟨i1, i2, i3⟩ := hinv
 refine vc_seq_k fun N9 h9 => ?_
 refine vc_seq_k fun N10 h10 => ?_
 refine u_reg ?_
 try refine lg_mk ?_
 iterate 2 refine u_mv ?_
 refine u_ln ?_
 refine u_bn ?_
 refine lg_nil ?_
 refine h10 _ ?_; clear h10; try clear N10
 refine u_cond (fun hb11 => ?_) (fun hb11 => ?_)
 obtain ⟨a, ha⟩ := getE (l := l) (i := i) (by omega)
 obtain ⟨c, hc⟩ := getE (l := m) (i := i) (by omega)
 refine vc_skip ?_
 try simp only [k_rules]
 refine h9 _ ?_; clear h9; try clear N9
 refine vc_seq_k fun N12 h12 => ?_
 refine vc_block ?_
 refine vc_seq_k fun N13 h13 => ?_
 have hx := And.intro @ha (And.intro @hc (And.intro @eB.eq_1 hx0))
 refine u_reg ?_
 try refine lg_mk ?_
 iterate 2 refine u_mv ?_
 refine u_pt ?_
 refine u_ld ?_
 iterate 2 refine u_mv ?_
 refine u_pt ?_
 refine u_ld ?_
 refine u_bn ?_
 refine lg_nil ?_
 have hx := hx0
 refine h13 _ ?_; clear h13; try clear N13
 refine u_cond (fun hb14 => ?_) (fun hb14 => ?_)
 have hne := hb14
 refine vc_seq_k fun N15 h15 => ?_
 refine u_reg ?_
 try refine lg_mk ?_
 refine u_mv ?_
 refine lg_nil ?_
 refine h15 _ ?_; clear h15; try clear N15
 refine vc_ret ?_
 try simp only [k_rules]
 have hr : decide (l = m) = false := decide_eq_false (ne_at ha hc (by simpa using hne))
 rw [hr]
 refine fin2_ ?_
 exact cl_
 have hne := hb14
 refine vc_skip ?_
 try simp only [k_rules]
 refine h12 _ ?_; clear h12; try clear N12
 refine u_reg ?_
 try refine lg_mk ?_
 refine u_mv ?_
 refine u_bn ?_
 refine u_mv ?_
 refine lg_nil ?_
 refine h8 _ ⟨i + 1, ?_, ?_, [], ?_⟩
 dsimp only
 refine ⟨i1, by omega, ?_⟩
 have he : a = c := by simpa using hne
 subst he
 exact take_at ha hc i3
 dsimp only
 omega
 dsimp only
 refine ⟨by rfl, ?_, ?_⟩
 refine fin_ ?_
 exact cl_
 refine fin_ ?_
 exact cl_
 refine vc_exit ?_
 simp only [k_rules, Nat.reduceEqDiff, reduceIte, eq_self]
 refine h6 _ ?_; clear h6; try clear N6
 refine vc_seq_k fun N16 h16 => ?_
 refine u_reg ?_
 try refine lg_mk ?_
 refine u_mv ?_
 refine lg_nil ?_
 refine h16 _ ?_; clear h16; try clear N16
 refine vc_ret ?_
 try simp only [k_rules]
 have hr : decide (l = m) = true := decide_eq_true (by rw [List.take_of_length_le (by omega), List.take_of_length_le (by omega)] at i3; exact i3)
 rw [hr]
 refine fin2_ ?_
 exact cl_
 cases hg

def E_bools : Env Tryd.prog := E_desq.add 27 (Spec.pure boolsG) bools_meets (by kernel_rfl)
end Go.Proofs.YtlbjffdaooadoaaDoor
