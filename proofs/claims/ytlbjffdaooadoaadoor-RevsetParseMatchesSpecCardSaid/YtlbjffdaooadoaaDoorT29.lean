/- Walks, printed by wip/gen/walk.py. -/
import Derived.Test.YtlbjffdaooadoaaDoorT28
import Derived.Test.YtlbjffdaooadoaaDoorV5
set_option linter.all false
set_option maxRecDepth 100000
set_option maxHeartbeats 4000000
namespace Go.Proofs.YtlbjffdaooadoaaDoor
open Go Go.Vc Go.RowKit
theorem selK_in_r {s : List Bool} {k n : Nat} (h : k ≤ n) : InR n (selK s k) := by
  intro x hx
  unfold selK at hx
  obtain ⟨j, hj, rfl⟩ := List.mem_map.1 hx
  have := List.mem_range.1 (List.mem_filter.1 hj).1
  omega
def relV (l : List Cm) (b : List Bool) (ch : Bool) : List Bool := vec l.length (relK l (fnB b) ch l.length)
def ofV (l : List Cm) (b : List Bool) : List Bool := vec l.length (ofB l (selK b b.length))
def desV (l : List Cm) (b : List Bool) : List Bool := vec l.length (desK l (fnB b) l.length)
def oneV (l : List Cm) (k : Int) (b : List Bool) : List Bool :=
  if k = 7 then minK (vec l.length fun _ => true) b l.length
  else if k = 8 then ofV l b
  else if k = 9 then desV l b
  else if k = 10 ∨ k = 11 then relV l b (decide (k = 11))
  else if k = 12 then minK b (ofV l (relV l b false)) l.length
  else minK b (desV l (relV l b true)) l.length
theorem relV_len (l : List Cm) (b : List Bool) (ch : Bool) : (relV l b ch).length = l.length := vec_len ..
theorem ofV_len (l : List Cm) (b : List Bool) : (ofV l b).length = l.length := vec_len ..
theorem desV_len (l : List Cm) (b : List Bool) : (desV l b).length = l.length := vec_len ..
theorem oneV_len (l : List Cm) (k : Int) {b : List Bool} (h : b.length = l.length) : (oneV l k b).length = l.length := by
  unfold oneV
  split
  · rw [minK_len, vec_len]
  · split
    · exact ofV_len ..
    · split
      · exact desV_len ..
      · split
        · exact relV_len ..
        · split <;> (rw [minK_len]; exact h)
def oneG : List AV → Option (Prop × AV)
  | [.d (.sl xs), .d (.int .i64 k), .d (.sl ys)] => some (xs = rows eC (dC xs) ∧ Valid (dC xs) ∧ ys = rows eB (dB ys) ∧ (dB ys).length = (dC xs).length, .d (.sl (rows eB (oneV (dC xs) k (dB ys)))))
  | _ => none
theorem upTo_set {n i : Nat} (h : i < n) : (vec n fun j => decide (j < i)).set i true = vec n fun j => decide (j < i + 1) := by
  rw [vec_set]
  congr 1
  funext k
  unfold setB
  split
  · rename_i e; subst e; simp
  · have : decide (k < i) = decide (k < i + 1) := by rw [decide_eq_decide]; omega
    exact this
theorem upTo_zero (n : Nat) : (vec n fun j => decide (j < 0)) = List.replicate n false := by
  rw [← vec_no]; congr 1
theorem upTo_all (n : Nat) : (vec n fun j => decide (j < n)) = vec n fun _ => true := by
  apply List.ext_getElem?
  intro j
  by_cases h : j < n
  · rw [vec_get h, vec_get h, decide_eq_true h]
  · rw [List.getElem?_eq_none (by rw [vec_len]; omega), List.getElem?_eq_none (by rw [vec_len]; omega)]

theorem one_meets : Meets Tryd.prog 49 (Spec.pure oneG) := by
 refine meets_fun (E_fmt.at_ 63) Tryd.func49 rfl rfl rfl ?_
 intro args p r hg hp
 unfold oneG at hg
 split at hg
 rename_i xs k ys
 simp only [Option.some.injEq, Prod.mk.injEq] at hg
 obtain ⟨rfl, rfl⟩ := hg
 obtain ⟨he, hv, he2, hbl⟩ := hp
 generalize dC xs = l at *
 generalize dB ys = b at *
 subst he he2
 have hl60 := hv.len
 have hsk := selK_len b b.length
 have hsr : InR l.length (selK b b.length) := selK_in_r (by omega)
 have hrf : vec l.length (relK l (fnB b) false l.length) = relV l b false := rfl
 have hrt : vec l.length (relK l (fnB b) true l.length) = relV l b true := rfl
 have hrl1 := relV_len l b false
 have hrl2 := relV_len l b true
 have hsk2 := selK_len (relV l b false) (relV l b false).length
 have hsr2 : InR l.length (selK (relV l b false) (relV l b false).length) := selK_in_r (by omega)
 have hdl := desV_len l (relV l b true)
 have hol := ofV_len l (relV l b false)
 have ho1 : vec l.length (ofB l (selK b b.length)) = ofV l b := rfl
 have ho2 : vec l.length (ofB l (selK (relV l b false) (relV l b false).length)) = ofV l (relV l b false) := rfl
 have hd1 : vec l.length (desK l (fnB b) l.length) = desV l b := rfl
 have htv : List.take l.length (vec l.length fun _ => true) = vec l.length fun _ => true := List.take_of_length_le (by rw [vec_len]; exact Nat.le_refl _)
 have hd2 : vec l.length (desK l (fnB (relV l b true)) l.length) = desV l (relV l b true) := rfl
 have hT : (E_fmt).X = T := rfl
 have hx0 := And.intro @rect_eC (And.intro @dC_rows (And.intro @dB_rows (And.intro @vec_len (And.intro @minK_len (And.intro @dec_t (And.intro @dec_f @Tryd.results49))))))
 have hx := hx0
 refine ⟨by rfl, ?_⟩
 intro F W0 hnp hmk
 refine vc_seq_k fun N1 h1 => ?_
 refine u_reg ?_
 try refine lg_mk ?_
 refine u_mv ?_
 refine lg_nil ?_
 refine h1 _ ?_; clear h1; try clear N1
 refine vc_seq_k fun N2 h2 => ?_
 refine vc_seq_k fun N3 h3 => ?_
 refine u_reg ?_
 try refine lg_mk ?_
 refine u_mv ?_
 refine lg_nil ?_
 refine h3 _ ?_; clear h3; try clear N3
 refine vc_block ?_
 refine vc_seq_k fun N4 h4 => ?_
 refine u_reg ?_
 try refine lg_mk ?_
 refine u_bn ?_
 refine u_mv ?_
 refine lg_nil ?_
 refine h4 _ ?_; clear h4; try clear N4
 refine u_cond (fun hb5 => ?_) (fun hb5 => ?_)
 refine vc_seq_k fun N6 h6 => ?_
 refine u_reg ?_
 try refine lg_mk ?_
 refine u_mv ?_
 refine u_ln ?_
 refine u_ms ?_
 refine u_mv ?_
 refine lg_nil ?_
 refine h6 _ ?_; clear h6; try clear N6
 refine vc_seq_k fun N7 h7 => ?_
 refine vc_seq_k fun N8 h8 => ?_
 refine u_reg ?_
 try refine lg_mk ?_
 refine u_mv ?_
 refine u_ln ?_
 refine u_mv ?_
 refine lg_nil ?_
 refine h8 _ ?_; clear h8; try clear N8
 refine vc_block ?_
 refine vc_loop_mk (σ := Nat) (fun s => (fun i => i ≤ l.length) s)
  (fun s => (fun i => [(0, .d (.sl (rows eC l))), (1, .d (.int .i64 k)), (2, .d (.sl (rows eB b))), (7, .sl 0 0 l.length), (16, .d (.int .i64 (l.length : Nat))), (17, .d (.int .i64 (i : Nat)))]) s)
  (fun s => (fun i => [some (.vec 4 1 (rows eB (vec l.length fun j => decide (j < i))))]) s) (fun s => (fun i => l.length - i) s) hnp 0 ?_ [some 0] ?_ ?_
 dsimp only
 omega
 dsimp only
 refine ⟨by rfl, ?_, ?_⟩
 refine fin_ ?_
 ·(repeat' apply And.intro) <;> (first | (first | rfl | trivial | omega | (rw [upTo_zero]; done) | (rw [upTo_zero]; simp [rows, eB, hbl]; done)) | exact cl_)
 refine fin_ ?_
 ·(repeat' apply And.intro) <;> (first | (first | rfl | trivial | omega | (rw [upTo_zero]; done) | (rw [upTo_zero]; simp [rows, eB, hbl]; done)) | exact cl_)
 rintro i hinv N9 h9
 dsimp only at hinv ⊢
 have i1 := hinv
 refine vc_seq_k fun N10 h10 => ?_
 refine u_reg ?_
 try refine lg_mk ?_
 refine u_bn ?_
 refine lg_nil ?_
 refine h10 _ ?_; clear h10; try clear N10
 refine vc_seq_k fun N11 h11 => ?_
 refine u_cond (fun hb12 => ?_) (fun hb12 => ?_)
 have hil : i < l.length := by have := hb12; (try simp at this); omega
 have hus := upTo_set hil
 have hug : (vec l.length fun j => decide (j < i))[i]? = some false := by rw [vec_get hil]; simp
 refine vc_skip ?_
 try simp only [k_rules]
 refine h11 _ ?_; clear h11; try clear N11
 refine vc_seq_k fun N13 h13 => ?_
 refine vc_block ?_
 refine vc_seq_k fun N14 h14 => ?_
 refine u_reg ?_
 try refine lg_mk ?_
 iterate 2 refine u_mv ?_
 refine lg_nil ?_
 refine h14 _ ?_; clear h14; try clear N14
 have hx := And.intro @hug (And.intro @eB.eq_1 hx0)
 refine u_reg ?_
 try refine lg_mk ?_
 iterate 2 refine u_mv ?_
 refine u_pt ?_
 refine u_st ?_
 refine lg_nil ?_
 have hx := hx0
 refine h13 _ ?_; clear h13; try clear N13
 refine u_reg ?_
 try refine lg_mk ?_
 refine u_bn ?_
 refine u_mv ?_
 refine lg_nil ?_
 refine h9 _ ⟨i + 1, ?_, ?_, [some 0], ?_⟩
 dsimp only
 omega
 dsimp only
 omega
 dsimp only
 refine ⟨by rfl, ?_, ?_⟩
 refine fin_ ?_
 ·(repeat' apply And.intro) <;> (first | (first | rfl | trivial | omega | (rw [← hus]; simp [rows, eB]; done)) | exact cl_)
 refine fin_ ?_
 ·(repeat' apply And.intro) <;> (first | (first | rfl | trivial | omega | (rw [← hus]; simp [rows, eB]; done)) | exact cl_)
 obtain rfl : i = l.length := by have := hb12; (try simp at this); omega
 have hua := upTo_all l.length
 have hut : List.take l.length (vec l.length fun j => decide (j < l.length)) = vec l.length fun _ => true := by rw [hua, List.take_of_length_le (by rw [vec_len]; exact Nat.le_refl _)]
 refine vc_exit ?_
 simp only [k_rules, Nat.reduceEqDiff, reduceIte, eq_self]
 refine h7 _ ?_; clear h7; try clear N7
 refine vc_seq_k fun N15 h15 => ?_
 have hx := And.intro @hut (And.intro @hua (And.intro @htv hx0))
 refine u_reg ?_
 try refine lg_mk ?_
 iterate 2 refine u_mv ?_
 have hc := call_rule (E := (E_fmt.at_ 63)) (f := 50) (sp := Spec.pure minG) rfl
 have hs := @minG.eq_1
 refine u_hp ?_
 refine u_mv ?_
 refine lg_nil ?_
 have hx := hx0
 refine h15 _ ?_; clear h15; try clear N15
 refine vc_ret ?_
 try simp only [k_rules]
 have hr : oneV l k b = minK (vec l.length fun _ => true) b l.length := by unfold oneV; exact if_pos (by have := hb5; (try simp at this); omega)
 rw [hr]
 refine fin2_ ?_
 ·(repeat' apply And.intro) <;> (first | (first | rfl | trivial | (with_reducible rfl) | (rw [List.take_length]; done) | (left; rw [hbl]; done) | (left; simp only [htv, vec_len, hbl]; done)) | exact cl_)
 refine vc_seq_k fun N16 h16 => ?_
 refine u_reg ?_
 try refine lg_mk ?_
 refine u_bn ?_
 refine u_mv ?_
 refine lg_nil ?_
 refine h16 _ ?_; clear h16; try clear N16
 refine u_cond (fun hb17 => ?_) (fun hb17 => ?_)
 refine vc_seq_k fun N18 h18 => ?_
 have hx := And.intro @ho1 hx0
 refine u_reg ?_
 try refine lg_mk ?_
 iterate 2 refine u_mv ?_
 have hc := call_rule (E := (E_fmt.at_ 63)) (f := 72) (sp := Spec.pure selG) rfl
 have hs := @selG.eq_1
 refine u_hp ?_
 have hc := call_rule (E := (E_fmt.at_ 63)) (f := 71) (sp := Spec.pure ofG) rfl
 have hs := @ofG.eq_1
 refine u_hp ?_
 refine u_mv ?_
 refine lg_nil ?_
 have hx := hx0
 refine h18 _ ?_; clear h18; try clear N18
 refine vc_ret ?_
 try simp only [k_rules]
 have hr : oneV l k b = ofV l b := by unfold oneV; rw [if_neg (by have := hb5; (try simp at this); omega)]; exact if_pos (by have := hb17; (try simp at this); omega)
 rw [hr]
 refine fin2_ ?_
 ·(repeat' apply And.intro) <;> (first | (first | rfl | trivial | (with_reducible rfl) | (rw [List.take_length]; done) | (left; rw [hbl]; done) | (left; simp only [htv, vec_len, hbl]; done)) | exact cl_)
 refine vc_seq_k fun N19 h19 => ?_
 refine u_reg ?_
 try refine lg_mk ?_
 refine u_bn ?_
 refine u_mv ?_
 refine lg_nil ?_
 refine h19 _ ?_; clear h19; try clear N19
 refine u_cond (fun hb20 => ?_) (fun hb20 => ?_)
 refine vc_seq_k fun N21 h21 => ?_
 have hx := And.intro @hd1 hx0
 refine u_reg ?_
 try refine lg_mk ?_
 iterate 2 refine u_mv ?_
 have hc := call_rule (E := (E_fmt.at_ 63)) (f := 73) (sp := Spec.pure desG) rfl
 have hs := @desG.eq_1
 refine u_hp ?_
 refine u_mv ?_
 refine lg_nil ?_
 have hx := hx0
 refine h21 _ ?_; clear h21; try clear N21
 refine vc_ret ?_
 try simp only [k_rules]
 have hr : oneV l k b = desV l b := by unfold oneV; rw [if_neg (by have := hb5; (try simp at this); omega), if_neg (by have := hb17; (try simp at this); omega)]; exact if_pos (by have := hb20; (try simp at this); omega)
 rw [hr]
 refine fin2_ ?_
 ·(repeat' apply And.intro) <;> (first | (first | rfl | trivial | (with_reducible rfl) | (rw [List.take_length]; done) | (left; rw [hbl]; done) | (left; simp only [htv, vec_len, hbl]; done)) | exact cl_)
 refine vc_seq_k fun N22 h22 => ?_
 refine vc_seq_k fun N23 h23 => ?_
 refine u_reg ?_
 try refine lg_mk ?_
 refine u_bn ?_
 refine u_mv ?_
 refine lg_nil ?_
 refine h23 _ ?_; clear h23; try clear N23
 refine u_cond (fun hb24 => ?_) (fun hb24 => ?_)
 refine vc_skip ?_
 try simp only [k_rules]
 refine h22 _ ?_; clear h22; try clear N22
 refine u_cond (fun hb25 => ?_) (fun hb25 => ?_)
 refine vc_seq_k fun N26 h26 => ?_
 refine u_reg ?_
 try refine lg_mk ?_
 iterate 3 refine u_mv ?_
 refine u_bn ?_
 have hc := call_rule (E := (E_fmt.at_ 63)) (f := 74) (sp := Spec.pure relG) rfl
 have hs := @relG.eq_1
 refine u_hp ?_
 refine u_mv ?_
 refine lg_nil ?_
 refine h26 _ ?_; clear h26; try clear N26
 refine vc_ret ?_
 try simp only [k_rules]
 have hr : oneV l k b = relV l b (decide (k = 11)) := by unfold oneV; rw [if_neg (by have := hb5; (try simp at this); omega), if_neg (by have := hb17; (try simp at this); omega), if_neg (by have := hb20; (try simp at this); omega)]; exact if_pos (by have := hb25; (try simp at this); omega)
 rw [hr]
 refine fin2_ ?_
 ·(repeat' apply And.intro) <;> (first | (first | rfl | trivial | (with_reducible rfl) | (rw [List.take_length]; done) | (left; rw [hbl]; done) | (left; simp only [htv, vec_len, hbl]; done)) | exact cl_)
 ·exfalso; first | omega | contradiction | (simp_all; done) | (simp_all; omega)
 refine u_reg ?_
 try refine lg_mk ?_
 refine u_bn ?_
 refine u_mv ?_
 refine lg_nil ?_
 refine h22 _ ?_; clear h22; try clear N22
 refine u_cond (fun hb27 => ?_) (fun hb27 => ?_)
 refine vc_seq_k fun N28 h28 => ?_
 refine u_reg ?_
 try refine lg_mk ?_
 iterate 3 refine u_mv ?_
 refine u_bn ?_
 have hc := call_rule (E := (E_fmt.at_ 63)) (f := 74) (sp := Spec.pure relG) rfl
 have hs := @relG.eq_1
 refine u_hp ?_
 refine u_mv ?_
 refine lg_nil ?_
 refine h28 _ ?_; clear h28; try clear N28
 refine vc_ret ?_
 try simp only [k_rules]
 have hr : oneV l k b = relV l b (decide (k = 11)) := by unfold oneV; rw [if_neg (by have := hb5; (try simp at this); omega), if_neg (by have := hb17; (try simp at this); omega), if_neg (by have := hb20; (try simp at this); omega)]; exact if_pos (by have := hb27; (try simp at this); omega)
 rw [hr]
 refine fin2_ ?_
 ·(repeat' apply And.intro) <;> (first | (first | rfl | trivial | (with_reducible rfl) | (rw [List.take_length]; done) | (left; rw [hbl]; done) | (left; simp only [htv, vec_len, hbl]; done)) | exact cl_)
 refine vc_seq_k fun N29 h29 => ?_
 refine u_reg ?_
 try refine lg_mk ?_
 refine u_bn ?_
 refine u_mv ?_
 refine lg_nil ?_
 refine h29 _ ?_; clear h29; try clear N29
 refine u_cond (fun hb30 => ?_) (fun hb30 => ?_)
 refine vc_seq_k fun N31 h31 => ?_
 have hx := And.intro @hrf (And.intro @ho2 (And.intro @hbl hx0))
 refine u_reg ?_
 try refine lg_mk ?_
 iterate 4 refine u_mv ?_
 have hc := call_rule (E := (E_fmt.at_ 63)) (f := 74) (sp := Spec.pure relG) rfl
 have hs := @relG.eq_1
 refine u_hp ?_
 have hc := call_rule (E := (E_fmt.at_ 63)) (f := 72) (sp := Spec.pure selG) rfl
 have hs := @selG.eq_1
 refine u_hp ?_
 have hc := call_rule (E := (E_fmt.at_ 63)) (f := 71) (sp := Spec.pure ofG) rfl
 have hs := @ofG.eq_1
 refine u_hp ?_
 have hc := call_rule (E := (E_fmt.at_ 63)) (f := 50) (sp := Spec.pure minG) rfl
 have hs := @minG.eq_1
 refine u_hp ?_
 refine u_mv ?_
 refine lg_nil ?_
 have hx := hx0
 refine h31 _ ?_; clear h31; try clear N31
 refine vc_ret ?_
 try simp only [k_rules]
 have hr : oneV l k b = minK b (ofV l (relV l b false)) l.length := by unfold oneV; rw [if_neg (by have := hb5; (try simp at this); omega), if_neg (by have := hb17; (try simp at this); omega), if_neg (by have := hb20; (try simp at this); omega), if_neg (by have := hb27; (try simp at this); omega)]; exact if_pos (by have := hb30; (try simp at this); omega)
 rw [hr]
 refine fin2_ ?_
 ·(repeat' apply And.intro) <;> (first | (first | rfl | trivial | (with_reducible rfl) | (rw [List.take_length]; done) | (left; rw [hbl]; done) | (left; simp only [htv, vec_len, hbl]; done)) | exact cl_)
 refine vc_skip ?_
 try simp only [k_rules]
 refine h2 _ ?_; clear h2; try clear N2
 refine vc_seq_k fun N32 h32 => ?_
 have hx := And.intro @hrt (And.intro @hd2 (And.intro @hbl hx0))
 refine u_reg ?_
 try refine lg_mk ?_
 iterate 4 refine u_mv ?_
 have hc := call_rule (E := (E_fmt.at_ 63)) (f := 74) (sp := Spec.pure relG) rfl
 have hs := @relG.eq_1
 refine u_hp ?_
 have hc := call_rule (E := (E_fmt.at_ 63)) (f := 73) (sp := Spec.pure desG) rfl
 have hs := @desG.eq_1
 refine u_hp ?_
 have hc := call_rule (E := (E_fmt.at_ 63)) (f := 50) (sp := Spec.pure minG) rfl
 have hs := @minG.eq_1
 refine u_hp ?_
 refine u_mv ?_
 refine lg_nil ?_
 have hx := hx0
 refine h32 _ ?_; clear h32; try clear N32
 refine vc_ret ?_
 try simp only [k_rules]
 have hr : oneV l k b = minK b (desV l (relV l b true)) l.length := by unfold oneV; rw [if_neg (by have := hb5; (try simp at this); omega), if_neg (by have := hb17; (try simp at this); omega), if_neg (by have := hb20; (try simp at this); omega), if_neg (by have := hb27; (try simp at this); omega)]; exact if_neg (by have := hb30; (try simp at this); omega)
 rw [hr]
 refine fin2_ ?_
 ·(repeat' apply And.intro) <;> (first | (first | rfl | trivial | (with_reducible rfl) | (rw [List.take_length]; done) | (left; rw [hbl]; done) | (left; simp only [htv, vec_len, hbl]; done)) | exact cl_)
 cases hg

def E_one : Env Tryd.prog := E_fmt.add 49 (Spec.pure oneG) one_meets (by kernel_rfl)
end Go.Proofs.YtlbjffdaooadoaaDoor
