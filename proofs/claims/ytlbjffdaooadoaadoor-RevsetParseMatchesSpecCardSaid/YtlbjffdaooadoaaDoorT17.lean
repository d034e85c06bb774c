/- Walks, printed by wip/gen/walk.py. -/
import Derived.Test.YtlbjffdaooadoaaDoorT16
import Derived.Test.YtlbjffdaooadoaaDoorV5
set_option linter.all false
set_option maxRecDepth 100000
set_option maxHeartbeats 4000000
namespace Go.Proofs.YtlbjffdaooadoaaDoor
open Go Go.Vc Go.RowKit
def relS (f : Nat → Bool) (ch : Bool) (i : Nat) (g : Nat → Bool) (p : Int) : Nat → Bool := if ch = true then setB g i (g i || f p.toNat) else setB g p.toNat (g p.toNat || f i)
def relJ (f : Nat → Bool) (ch : Bool) (i : Nat) (ps : List Int) (g : Nat → Bool) : Nat → Nat → Bool
  | 0 => g
  | j + 1 => relS f ch i (relJ f ch i ps g j) (ps.getD j 0)
def relK (l : List Cm) (f : Nat → Bool) (ch : Bool) : Nat → Nat → Bool
  | 0 => fun _ => false
  | i + 1 => relJ f ch i (l.getD i default).par (relK l f ch i) (l.getD i default).par.length
theorem vec_no (n : Nat) : vec n (fun _ => false) = List.replicate n false := by
  apply List.ext_getElem?
  intro j
  by_cases h : j < n
  · rw [vec_get h, List.getElem?_replicate_of_lt h]
  · rw [List.getElem?_eq_none (by rw [vec_len]; omega), List.getElem?_eq_none (by rw [List.length_replicate]; omega)]
def relG : List AV → Option (Prop × AV)
  | [.d (.sl xs), .d (.sl ys), .d (.bool ch)] => some (xs = rows eC (dC xs) ∧ Valid (dC xs) ∧ ys = rows eB (dB ys) ∧ (dB ys).length = (dC xs).length, .d (.sl (rows eB (vec (dC xs).length (relK (dC xs) (fnB (dB ys)) ch (dC xs).length)))))
  | _ => none

theorem relq_meets : Meets Tryd.prog 74 (Spec.pure relG) := by
 refine meets_fun (E_bools.at_ 59) Tryd.func74 rfl rfl rfl ?_
 intro args p r hg hp
 unfold relG at hg
 split at hg
 rename_i xs ys ch
 simp only [Option.some.injEq, Prod.mk.injEq] at hg
 obtain ⟨rfl, rfl⟩ := hg
 obtain ⟨he, hv, he2, hbl⟩ := hp
 generalize dC xs = l at *
 generalize dB ys = b at *
 subst he he2
 have hl60 := hv.len
 have hb0 : vec l.length (fnB b) = b := vec_fnB hbl
 have hvn := vec_no l.length
 have hT : (E_bools).X = T := rfl
 have hx0 := And.intro @rect_eC (And.intro @dB_rows (And.intro @vec_len @Tryd.results74))
 have hx := hx0
 refine ⟨by rfl, ?_⟩
 intro F W0 hnp hmk
 refine vc_seq_k fun N1 h1 => ?_
 refine u_reg ?_
 try refine lg_mk ?_
 refine u_mv ?_
 refine lg_nil ?_
 refine h1 _ ?_; clear h1; try clear N1
 refine vc_seq_k fun N2 h2 => ?_
 refine u_reg ?_
 try refine lg_mk ?_
 refine u_mv ?_
 refine u_ln ?_
 refine u_ms ?_
 refine u_mv ?_
 refine lg_nil ?_
 refine h2 _ ?_; clear h2; try clear N2
 refine vc_seq_k fun N3 h3 => ?_
 refine vc_seq_k fun N4 h4 => ?_
 refine u_reg ?_
 try refine lg_mk ?_
 refine u_mv ?_
 refine u_ln ?_
 refine u_mv ?_
 refine lg_nil ?_
 refine h4 _ ?_; clear h4; try clear N4
 refine vc_block ?_
 refine vc_loop_mk (σ := Nat) (fun s => (fun i => i ≤ l.length) s)
  (fun s => (fun i => [(0, .d (.sl (rows eC l))), (1, .d (.sl (rows eB b))), (2, .d (.bool ch)), (7, .sl 0 0 l.length), (15, .d (.sl (rows eC l))), (16, .d (.int .i64 (l.length : Nat))), (17, .d (.int .i64 (i : Nat)))]) s)
  (fun s => (fun i => [some (.vec 4 1 (rows eB (vec l.length (relK l (fnB b) ch i))))]) s) (fun s => (fun i => l.length - i) s) hnp 0 ?_ [some 0] ?_ ?_
 dsimp only
 omega
 dsimp only
 refine ⟨by rfl, ?_, ?_⟩
 refine fin_ ?_
 ·(repeat' apply And.intro) <;> (first | (first | rfl | trivial | omega | (show _ = rows eB (vec l.length fun _ => false); rw [hvn]; done) | (show _ = rows eB (vec l.length fun _ => false); rw [hvn]; simp [rows, eB]; done)) | exact cl_)
 refine fin_ ?_
 ·(repeat' apply And.intro) <;> (first | (first | rfl | trivial | omega | (show _ = rows eB (vec l.length fun _ => false); rw [hvn]; done) | (show _ = rows eB (vec l.length fun _ => false); rw [hvn]; simp [rows, eB]; done)) | exact cl_)
 rintro i hinv N5 h5
 dsimp only at hinv ⊢
 have i1 := hinv
 refine vc_seq_k fun N6 h6 => ?_
 refine u_reg ?_
 try refine lg_mk ?_
 refine u_bn ?_
 refine lg_nil ?_
 refine h6 _ ?_; clear h6; try clear N6
 refine vc_seq_k fun N7 h7 => ?_
 refine u_cond (fun hb8 => ?_) (fun hb8 => ?_)
 have hil : i < l.length := by have := hb8; omega
 obtain ⟨c, hce⟩ := getE (l := l) (i := i) hil
 have hcd : l.getD i default = c := by rw [List.getD_eq_getElem?_getD, hce]; rfl
 have hc3 := hv.few hce
 have hbi : b[i]? = some (fnB b i) := by rw [← hb0, vec_get hil, hb0]
 refine vc_skip ?_
 try simp only [k_rules]
 refine h7 _ ?_; clear h7; try clear N7
 refine vc_seq_k fun N9 h9 => ?_
 refine vc_block ?_
 refine vc_seq_k fun N10 h10 => ?_
 have hx := And.intro @hce (And.intro @eC.eq_1 hx0)
 refine u_reg ?_
 try refine lg_mk ?_
 refine u_mv ?_
 refine u_pt ?_
 refine u_ld ?_
 refine u_al ?_
 refine u_mv ?_
 refine u_st ?_
 refine lg_nil ?_
 have hx := hx0
 refine h10 _ ?_; clear h10; try clear N10
 refine vc_seq_k fun N11 h11 => ?_
 refine u_reg ?_
 try refine lg_mk ?_
 refine u_pt ?_
 refine u_ld ?_
 refine u_ln ?_
 refine u_mv ?_
 refine lg_nil ?_
 refine h11 _ ?_; clear h11; try clear N11
 refine vc_block ?_
 refine vc_loop_mk (σ := Nat) (fun s => (fun j => j ≤ c.par.length) s)
  (fun s => (fun j => [(0, .d (.sl (rows eC l))), (1, .d (.sl (rows eB b))), (2, .d (.bool ch)), (7, .sl 0 0 l.length), (8, .d (.int .i64 (i : Nat))), (15, .d (.sl (rows eC l))), (16, .d (.int .i64 (l.length : Nat))), (17, .d (.int .i64 (i : Nat))), (23, .d (.sl (rows eI c.par))), (24, .d (.int .i64 (c.par.length : Nat))), (25, .d (.int .i64 (j : Nat)))]) s)
  (fun s => (fun j => [some (.vec 4 1 (rows eB (vec l.length (relJ (fnB b) ch i c.par (relK l (fnB b) ch i) j))))]) s) (fun s => (fun j => c.par.length - j) s) hnp 0 ?_ [some 0] ?_ ?_
 dsimp only
 omega
 dsimp only
 refine ⟨by rfl, ?_, ?_⟩
 refine fin_ ?_
 exact cl_
 refine fin_ ?_
 exact cl_
 rintro j hinv N12 h12
 dsimp only at hinv ⊢
 have j1 := hinv
 refine vc_seq_k fun N13 h13 => ?_
 refine u_reg ?_
 try refine lg_mk ?_
 refine u_bn ?_
 refine lg_nil ?_
 refine h13 _ ?_; clear h13; try clear N13
 refine vc_seq_k fun N14 h14 => ?_
 refine u_cond (fun hb15 => ?_) (fun hb15 => ?_)
 obtain ⟨p, hpe⟩ := getE (l := c.par) (i := j) (by have := hb15; omega)
 have hpr := hv.par hce hpe
 have hpd : c.par.getD j 0 = p := getD_at hpe
 have hg1 : (vec l.length (relJ (fnB b) ch i c.par (relK l (fnB b) ch i) j))[i]? = some ((relJ (fnB b) ch i c.par (relK l (fnB b) ch i) j) i) := vec_get hil
 have hg2 : (vec l.length (relJ (fnB b) ch i c.par (relK l (fnB b) ch i) j))[p.toNat]? = some ((relJ (fnB b) ch i c.par (relK l (fnB b) ch i) j) p.toNat) := vec_get (by omega)
 have hbp : b[p.toNat]? = some (fnB b p.toNat) := by rw [← hb0, vec_get (by omega), hb0]
 refine vc_skip ?_
 try simp only [k_rules]
 refine h14 _ ?_; clear h14; try clear N14
 refine vc_seq_k fun N16 h16 => ?_
 refine vc_block ?_
 refine vc_seq_k fun N17 h17 => ?_
 have hx := And.intro @hpe (And.intro @eI.eq_1 hx0)
 refine u_reg ?_
 try refine lg_mk ?_
 refine u_pt ?_
 refine u_ld ?_
 refine u_mv ?_
 refine lg_nil ?_
 have hx := hx0
 refine h17 _ ?_; clear h17; try clear N17
 refine vc_seq_k fun N18 h18 => ?_
 refine u_reg ?_
 try refine lg_mk ?_
 refine u_mv ?_
 refine lg_nil ?_
 refine h18 _ ?_; clear h18; try clear N18
 refine u_cond (fun hb19 => ?_) (fun hb19 => ?_)
 obtain rfl : ch = true := by simpa using hb19
 have hsn : relJ (fnB b) true i c.par (relK l (fnB b) true i) (j + 1) = setB (relJ (fnB b) true i c.par (relK l (fnB b) true i) j) i ((relJ (fnB b) true i c.par (relK l (fnB b) true i) j) i || fnB b p.toNat) := by rw [← hpd]; rfl
 rcases (show (relJ (fnB b) true i c.par (relK l (fnB b) true i) j) i = true ∨ (relJ (fnB b) true i c.par (relK l (fnB b) true i) j) i = false by cases (relJ (fnB b) true i c.par (relK l (fnB b) true i) j) i <;> simp) with hj1 | hj1
 have hs1 : relJ (fnB b) true i c.par (relK l (fnB b) true i) (j + 1) = setB (relJ (fnB b) true i c.par (relK l (fnB b) true i) j) i true := by rw [hsn, hj1]; rfl
 have hx := And.intro @hg1 (And.intro @hj1 (And.intro @hbp (And.intro @eB.eq_1 hx0)))
 refine u_reg ?_
 try refine lg_mk ?_
 iterate 4 refine u_mv ?_
 refine u_pt ?_
 refine u_ld ?_
 refine u_mv ?_
 iterate 2 refine g_mv ?_
 refine g_pt ?_
 refine g_ld ?_
 refine u_pk ?_
 refine u_pt ?_
 refine u_st ?_
 refine lg_nil ?_
 have hx := hx0
 refine h16 _ ?_; clear h16; try clear N16
 refine u_reg ?_
 try refine lg_mk ?_
 refine u_bn ?_
 refine u_mv ?_
 refine lg_nil ?_
 refine h12 _ ⟨j + 1, ?_, ?_, [some 0], ?_⟩
 dsimp only
 omega
 dsimp only
 omega
 dsimp only
 refine ⟨by rfl, ?_, ?_⟩
 refine fin_ ?_
 ·(repeat' apply And.intro) <;> (first | (first | rfl | trivial | omega | (rw [hs1, ← vec_set]; simp [rows, eB]; done)) | exact cl_)
 refine fin_ ?_
 ·(repeat' apply And.intro) <;> (first | (first | rfl | trivial | omega | (rw [hs1, ← vec_set]; simp [rows, eB]; done)) | exact cl_)
 have hs1 : relJ (fnB b) true i c.par (relK l (fnB b) true i) (j + 1) = setB (relJ (fnB b) true i c.par (relK l (fnB b) true i) j) i (fnB b p.toNat) := by rw [hsn, hj1]; rfl
 have hx := And.intro @hg1 (And.intro @hj1 (And.intro @hbp (And.intro @eB.eq_1 hx0)))
 refine u_reg ?_
 try refine lg_mk ?_
 iterate 4 refine u_mv ?_
 refine u_pt ?_
 refine u_ld ?_
 refine u_mv ?_
 iterate 2 refine g_mv ?_
 refine g_pt ?_
 refine g_ld ?_
 refine u_pk ?_
 refine u_pt ?_
 refine u_st ?_
 refine lg_nil ?_
 have hx := hx0
 refine h16 _ ?_; clear h16; try clear N16
 refine u_reg ?_
 try refine lg_mk ?_
 refine u_bn ?_
 refine u_mv ?_
 refine lg_nil ?_
 refine h12 _ ⟨j + 1, ?_, ?_, [some 0], ?_⟩
 dsimp only
 omega
 dsimp only
 omega
 dsimp only
 refine ⟨by rfl, ?_, ?_⟩
 refine fin_ ?_
 ·(repeat' apply And.intro) <;> (first | (first | rfl | trivial | omega | (rw [hs1, ← vec_set]; simp [rows, eB]; done)) | exact cl_)
 refine fin_ ?_
 ·(repeat' apply And.intro) <;> (first | (first | rfl | trivial | omega | (rw [hs1, ← vec_set]; simp [rows, eB]; done)) | exact cl_)
 obtain rfl : ch = false := by simpa using hb19
 have hsn : relJ (fnB b) false i c.par (relK l (fnB b) false i) (j + 1) = setB (relJ (fnB b) false i c.par (relK l (fnB b) false i) j) p.toNat ((relJ (fnB b) false i c.par (relK l (fnB b) false i) j) p.toNat || fnB b i) := by rw [← hpd]; rfl
 rcases (show (relJ (fnB b) false i c.par (relK l (fnB b) false i) j) p.toNat = true ∨ (relJ (fnB b) false i c.par (relK l (fnB b) false i) j) p.toNat = false by cases (relJ (fnB b) false i c.par (relK l (fnB b) false i) j) p.toNat <;> simp) with hj1 | hj1
 have hs1 : relJ (fnB b) false i c.par (relK l (fnB b) false i) (j + 1) = setB (relJ (fnB b) false i c.par (relK l (fnB b) false i) j) p.toNat true := by rw [hsn, hj1]; rfl
 have hx := And.intro @hg2 (And.intro @hj1 (And.intro @hbi (And.intro @eB.eq_1 hx0)))
 refine u_reg ?_
 try refine lg_mk ?_
 iterate 4 refine u_mv ?_
 refine u_pt ?_
 refine u_ld ?_
 refine u_mv ?_
 iterate 2 refine g_mv ?_
 refine g_pt ?_
 refine g_ld ?_
 refine u_pk ?_
 refine u_pt ?_
 refine u_st ?_
 refine lg_nil ?_
 have hx := hx0
 refine h16 _ ?_; clear h16; try clear N16
 refine u_reg ?_
 try refine lg_mk ?_
 refine u_bn ?_
 refine u_mv ?_
 refine lg_nil ?_
 refine h12 _ ⟨j + 1, ?_, ?_, [some 0], ?_⟩
 dsimp only
 omega
 dsimp only
 omega
 dsimp only
 refine ⟨by rfl, ?_, ?_⟩
 refine fin_ ?_
 ·(repeat' apply And.intro) <;> (first | (first | rfl | trivial | omega | (rw [hs1, ← vec_set]; simp [rows, eB]; done)) | exact cl_)
 refine fin_ ?_
 ·(repeat' apply And.intro) <;> (first | (first | rfl | trivial | omega | (rw [hs1, ← vec_set]; simp [rows, eB]; done)) | exact cl_)
 have hs1 : relJ (fnB b) false i c.par (relK l (fnB b) false i) (j + 1) = setB (relJ (fnB b) false i c.par (relK l (fnB b) false i) j) p.toNat (fnB b i) := by rw [hsn, hj1]; rfl
 have hx := And.intro @hg2 (And.intro @hj1 (And.intro @hbi (And.intro @eB.eq_1 hx0)))
 refine u_reg ?_
 try refine lg_mk ?_
 iterate 4 refine u_mv ?_
 refine u_pt ?_
 refine u_ld ?_
 refine u_mv ?_
 iterate 2 refine g_mv ?_
 refine g_pt ?_
 refine g_ld ?_
 refine u_pk ?_
 refine u_pt ?_
 refine u_st ?_
 refine lg_nil ?_
 have hx := hx0
 refine h16 _ ?_; clear h16; try clear N16
 refine u_reg ?_
 try refine lg_mk ?_
 refine u_bn ?_
 refine u_mv ?_
 refine lg_nil ?_
 refine h12 _ ⟨j + 1, ?_, ?_, [some 0], ?_⟩
 dsimp only
 omega
 dsimp only
 omega
 dsimp only
 refine ⟨by rfl, ?_, ?_⟩
 refine fin_ ?_
 ·(repeat' apply And.intro) <;> (first | (first | rfl | trivial | omega | (rw [hs1, ← vec_set]; simp [rows, eB]; done)) | exact cl_)
 refine fin_ ?_
 ·(repeat' apply And.intro) <;> (first | (first | rfl | trivial | omega | (rw [hs1, ← vec_set]; simp [rows, eB]; done)) | exact cl_)
 obtain rfl : j = c.par.length := by have := hb15; omega
 have hds : relK l (fnB b) ch (i + 1) = relJ (fnB b) ch i c.par (relK l (fnB b) ch i) c.par.length := by rw [← hcd]; rfl
 refine vc_exit ?_
 simp only [k_rules, Nat.reduceEqDiff, reduceIte, eq_self]
 refine h9 _ ?_; clear h9; try clear N9
 refine u_reg ?_
 try refine lg_mk ?_
 refine u_bn ?_
 refine u_mv ?_
 refine lg_nil ?_
 refine h5 _ ⟨i + 1, ?_, ?_, [some 0], ?_⟩
 dsimp only
 omega
 dsimp only
 omega
 dsimp only
 refine ⟨by rfl, ?_, ?_⟩
 refine fin_ ?_
 ·(repeat' apply And.intro) <;> (first | (first | rfl | trivial | omega | (rw [hds]; done)) | exact cl_)
 refine fin_ ?_
 ·(repeat' apply And.intro) <;> (first | (first | rfl | trivial | omega | (rw [hds]; done)) | exact cl_)
 obtain rfl : i = l.length := by have := hb8; omega
 have hvt : (vec l.length (relK l (fnB b) ch l.length)).take l.length = vec l.length (relK l (fnB b) ch l.length) := List.take_of_length_le (by rw [vec_len]; exact Nat.le_refl _)
 refine vc_exit ?_
 simp only [k_rules, Nat.reduceEqDiff, reduceIte, eq_self]
 refine h3 _ ?_; clear h3; try clear N3
 refine vc_seq_k fun N20 h20 => ?_
 refine u_reg ?_
 try refine lg_mk ?_
 iterate 2 refine u_mv ?_
 refine lg_nil ?_
 refine h20 _ ?_; clear h20; try clear N20
 refine vc_ret ?_
 try simp only [k_rules]
 refine fin2_ ?_
 ·(repeat' apply And.intro) <;> (first | (first | rfl | trivial | omega | (rw [hvt]; done) | (left; rw [hvt]; done) | (rw [rows_len, vec_len]; omega)) | exact cl_)
 cases hg

def E_relq : Env Tryd.prog := E_bools.add 74 (Spec.pure relG) relq_meets (by kernel_rfl)
end Go.Proofs.YtlbjffdaooadoaaDoor
