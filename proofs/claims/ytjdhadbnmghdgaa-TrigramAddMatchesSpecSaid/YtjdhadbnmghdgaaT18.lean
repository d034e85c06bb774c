/- Walks, printed by wip/gen/walk.py. -/
import Derived.Test.YtjdhadbnmghdgaaT17
import Derived.Test.YtjdhadbnmghdgaaV5
set_option linter.all false
set_option maxRecDepth 100000
set_option maxHeartbeats 4000000
namespace Go.Proofs.Ytjdhadbnmghdgaa
open Go Go.Vc Go.RowKit
theorem delI_snoc {Q : Int → Bool} {l : List Int} {i : Nat} {x : Int} (h : l[i]? = some x) : delI Q (l.take (i + 1)) = delI Q (l.take i) ++ if Q x = true then [] else [x] := by
  unfold delI
  rw [List.take_add_one, h, List.filter_append]
  cases hq : Q x <;> simp [hq]
def lessRG : List AV → Option (Prop × AV)
  | [.d (.sl xs), .d (.int .i64 n)] => some (xs = rows eI (dI xs) ∧ (dI xs).length ≤ 1000000000, .d (.sl (rows eI (delI (isN n) (dI xs)))))
  | _ => none
/-- The index without a number. -/
def remP (P : List Post) (n : Int) : List Post := (P.map fun p => (p.1, delI (isN n) p.2)).filter fun p => decide (p.2 ≠ [])
theorem remP_snoc {P : List Post} {n : Int} {i : Nat} {g : Bs} {t : List Int} (h : P[i]? = some (g, t)) : remP (P.take (i + 1)) n = remP (P.take i) n ++ if delI (isN n) t = [] then [] else [(g, delI (isN n) t)] := by
  unfold remP
  rw [List.take_add_one, h, List.map_append, List.filter_append]
  congr 1
  by_cases hd : delI (isN n) t = [] <;> simp [hd]
def remTG : List AV → Option (Prop × AV)
  | [.agg [.d (.sl xs), .d (.sl ps)], .d (.int .i64 n)] => some (xs = rows eI (dI xs) ∧ ps = rows eP (dP ps) ∧ ValP (dI xs) (dP ps), .agg [.d (.sl (rows eI (delI (isN n) (dI xs)))), .d (.sl (rows eP (remP (dP ps) n)))])
  | _ => none
def addRG : List AV → Option (Prop × AV)
  | [.agg [.d (.sl xs), .d (.sl ps)], .d (.int .i64 n), .d (.str s)] => some (xs = rows eI (dI xs) ∧ ps = rows eP (dP ps) ∧ ValP (dI xs) (dP ps) ∧ s.length ≤ 400, .agg [.d (.sl (rows eI (ins (dI xs) n))), .d (.sl (rows eP (addP (dP ps) n s)))])
  | _ => none
def ixOfG : List AV → Option (Prop × AV)
  | [.d (.sl ns), .d (.sl xs)] => some (xs = rows eT (dT xs) ∧ ns = rows eI (iota (dT xs).length) ∧ (dT xs).length ≤ 20 ∧ ∀ s ∈ dT xs, s.length ≤ 400, .agg [.d (.sl (rows eI (iota (dT xs).length))), .d (.sl (rows eP (idxK (dT xs) (dT xs).length)))])
  | _ => none
def cForG : List AV → Option (Prop × AV)
  | [.agg [.d (.sl xs), .d (.sl ps)], .d (.str s)] => some (xs = rows eI (dI xs) ∧ ps = rows eP (dP ps) ∧ ValP (dI xs) (dP ps) ∧ s.length ≤ 1000000000, .d (.sl (rows eI (candK (dI xs) (dP ps) s (s.length - 2)))))
  | _ => none
theorem remP_len (P : List Post) (n : Int) : (remP P n).length ≤ P.length := by unfold remP; exact Nat.le_trans (List.length_filter_le _ _) (by simp)
theorem eP_snoc (P : List Post) (g : Bs) (t : List Int) : rows eP P ++ [[.str g, .sl (rows eI t)]] = rows eP (P ++ [(g, t)]) := by simp [rows]; rfl

theorem lessR_meets : Meets Try.prog 46 (Spec.pure lessRG) := by
 refine meets_fun (E_candT.at_ 27) Try.func46 rfl rfl rfl ?_
 intro args p r hg hp
 unfold lessRG at hg
 split at hg
 ·rename_i xs n
  simp only [Option.some.injEq, Prod.mk.injEq] at hg
  obtain ⟨rfl, rfl⟩ := hg
  obtain ⟨he, hl⟩ := hp
  generalize dI xs = l at *
  subst he
  have hT : (E_candT).X = T := rfl
  have hx0 := @Try.results46
  have hx := hx0
  refine ⟨by rfl, ?_⟩
  intro F W0 hnp hmk
  refine vc_seq_k fun N1 h1 => ?_
  refine u_reg ?_
  try refine lg_mk ?_
  refine u_mv ?_
  refine lg_nil ?_
  refine h1 _ ?_; clear h1; try clear N1
  refine vc_seq_k fun N2 h2 => ?_
  refine u_reg ?_
  try refine lg_mk ?_
  refine u_mv ?_
  refine lg_nil ?_
  refine h2 _ ?_; clear h2; try clear N2
  refine vc_seq_k fun N3 h3 => ?_
  refine vc_seq_k fun N4 h4 => ?_
  refine u_reg ?_
  try refine lg_mk ?_
  refine u_mv ?_
  refine lg_nil ?_
  refine h4 _ ?_; clear h4; try clear N4
  refine vc_block ?_
  refine vc_loop_mk (σ := Nat) (fun s => (fun i => i ≤ l.length) s)
   (fun s => (fun i => [(0, .d (.sl (rows eI l))), (1, .d (.int .i64 n)), (5, .sl 0 0 (delI (isN n) (l.take i)).length), (6, .d (.int .i64 (i : Nat)))]) s)
   (fun s => (fun i => [some (.vec 3 1 (rows eI (delI (isN n) (l.take i))))]) s) (fun s => (fun i => l.length - i) s) hnp 0 ?_ [none] ?_ ?_
  ·dsimp only
   omega
  ·dsimp only
   refine ⟨by rfl, ?_, ?_⟩
   ·refine fin_ ?_
    exact cl_
   ·refine fin_ ?_
    exact cl_
  ·rintro i hinv N5 h5
   dsimp only at hinv ⊢
   have i1 := hinv
   refine vc_seq_k fun N6 h6 => ?_
   refine vc_seq_k fun N7 h7 => ?_
   refine u_reg ?_
   try refine lg_mk ?_
   refine u_mv ?_
   refine u_mv ?_
   refine u_ln ?_
   refine u_bn ?_
   refine lg_nil ?_
   refine h7 _ ?_; clear h7; try clear N7
   refine u_cond (fun hb8 => ?_) (fun hb8 => ?_)
   ·obtain ⟨x, hxe⟩ := getE (l := l) (i := i) (by omega)
    have hsn := delI_snoc (Q := isN n) hxe
    have hdl := delI_len (isN n) (l.take i)
    rw [List.length_take] at hdl
    refine vc_skip ?_
    try simp only [k_rules]
    refine h6 _ ?_; clear h6; try clear N6
    refine vc_seq_k fun N9 h9 => ?_
    refine vc_block ?_
    refine vc_seq_k fun N10 h10 => ?_
    have hx := And.intro @hxe (And.intro @eI.eq_1 hx0)
    refine u_reg ?_
    try refine lg_mk ?_
    refine u_mv ?_
    refine u_mv ?_
    refine u_pt ?_
    refine u_ld ?_
    refine u_mv ?_
    refine u_bn ?_
    refine lg_nil ?_
    have hx := hx0
    refine h10 _ ?_; clear h10; try clear N10
    refine u_cond (fun hb11 => ?_) (fun hb11 => ?_)
    ·have hx := And.intro @hxe (And.intro @eI.eq_1 hx0)
     refine u_reg ?_
     try refine lg_mk ?_
     refine u_mv ?_
     refine u_mv ?_
     refine u_mv ?_
     refine u_pt ?_
     refine u_ld ?_
     refine u_bs ?_
     refine u_ap ?_
     refine u_mv ?_
     refine lg_nil ?_
     have hx := hx0
     refine h9 _ ?_; clear h9; try clear N9
     refine u_reg ?_
     try refine lg_mk ?_
     refine u_mv ?_
     refine u_bn ?_
     refine u_mv ?_
     refine lg_nil ?_
     have hne : isN n x = false := decide_eq_false (by have := hb11; simpa using this)
     rw [hne] at hsn
     refine h5 _ ⟨i + 1, ?_, ?_, [some 2], ?_⟩
     ·dsimp only
      omega
     ·dsimp only
      omega
     ·dsimp only
      refine ⟨by rfl, ?_, ?_⟩
      ·refine fin_ ?_
       (repeat' apply And.intro) <;> (first | (first | rfl | trivial | (rw [hsn]; simp [rows, eI]; done) | (rw [hsn]; simp; done)) | exact cl_)
      ·refine fin_ ?_
       (repeat' apply And.intro) <;> (first | (first | rfl | trivial | (rw [hsn]; simp [rows, eI]; done) | (rw [hsn]; simp; done)) | exact cl_)
    ·refine vc_skip ?_
     try simp only [k_rules]
     refine h9 _ ?_; clear h9; try clear N9
     refine u_reg ?_
     try refine lg_mk ?_
     refine u_mv ?_
     refine u_bn ?_
     refine u_mv ?_
     refine lg_nil ?_
     have hne : isN n x = true := decide_eq_true (by have := hb11; simpa using this)
     rw [hne, if_pos rfl, List.append_nil] at hsn
     refine h5 _ ⟨i + 1, ?_, ?_, [some 0], ?_⟩
     ·dsimp only
      omega
     ·dsimp only
      omega
     ·dsimp only
      refine ⟨by rfl, ?_, ?_⟩
      ·refine fin_ ?_
       (repeat' apply And.intro) <;> (first | (first | rfl | trivial | (rw [hsn]; done)) | exact cl_)
      ·refine fin_ ?_
       (repeat' apply And.intro) <;> (first | (first | rfl | trivial | (rw [hsn]; done)) | exact cl_)
   ·refine vc_exit ?_
    simp only [k_rules, Nat.reduceEqDiff, reduceIte, eq_self]
    refine h3 _ ?_; clear h3; try clear N3
    refine vc_seq_k fun N12 h12 => ?_
    refine u_reg ?_
    try refine lg_mk ?_
    refine u_mv ?_
    refine u_mv ?_
    refine lg_nil ?_
    refine h12 _ ?_; clear h12; try clear N12
    refine vc_ret ?_
    try simp only [k_rules]
    obtain rfl : i = l.length := by omega
    refine fin2_ ?_
    (repeat' apply And.intro) <;> (first | (first | rfl | exact Or.inl rfl | trivial | (rw [List.take_length]; done) | (simp [List.take_length]; done)) | exact cl_)
 ·cases hg

def E_lessR : Env Try.prog := E_candT.add 46 (Spec.pure lessRG) lessR_meets (by kernel_rfl)

theorem remT_meets : Meets Try.prog 26 (Spec.pure remTG) := by
 refine meets_fun (E_lessR.at_ 45) Try.func26 rfl rfl rfl ?_
 intro args p r hg hp
 unfold remTG at hg
 split at hg
 ·rename_i xs ps n
  simp only [Option.some.injEq, Prod.mk.injEq] at hg
  obtain ⟨rfl, rfl⟩ := hg
  obtain ⟨he, he2, hv⟩ := hp
  generalize dI xs = l at *
  generalize dP ps = P at *
  subst he he2
  have hlen20 := hv.tlen
  have hpl := hv.plen
  have hpm := hv.pmax
  have hT : (E_lessR).X = T := rfl
  have hx0 := And.intro @rect_eP (And.intro @dI_rows (And.intro @eP_eq @Try.results26))
  have hx := hx0
  refine ⟨by rfl, ?_⟩
  intro F W0 hnp hmk
  refine vc_seq_k fun N1 h1 => ?_
  refine u_reg ?_
  try refine lg_mk ?_
  refine u_bx ?_
  refine u_al ?_
  refine lg_nil ?_
  refine h1 _ ?_; clear h1; try clear N1
  refine vc_seq_k fun N2 h2 => ?_
  refine u_reg ?_
  try refine lg_mk ?_
  refine u_pt ?_
  refine u_ld ?_
  refine u_mv ?_
  have hc := call_rule (E := (E_lessR.at_ 45)) (f := 46) (sp := Spec.pure lessRG) rfl
  have hs := @lessRG.eq_1
  refine u_hp ?_
  refine u_bd ?_
  refine u_al ?_
  refine u_st ?_
  refine lg_nil ?_
  refine h2 _ ?_; clear h2; try clear N2
  refine vc_seq_k fun N3 h3 => ?_
  refine vc_seq_k fun N4 h4 => ?_
  refine vc_nil1 2 1 _ 2 (vec_nil 55 2) rfl rfl rfl ?_
  simp only [updL, List.set, List.cons_append, List.nil_append]
  refine u_reg ?_
  try refine lg_mk ?_
  refine u_mv ?_
  refine lg_nil ?_
  refine h4 _ ?_; clear h4; try clear N4
  refine vc_block ?_
  refine vc_loop_mk (σ := Nat) (fun s => (fun i => i ≤ P.length) s)
   (fun s => (fun i => [(1, .d (.int .i64 n)), (2, .ptr 0 0 0), (4, .ptr 1 0 0), (5, .ptr 2 0 0), (6, .d (.int .i64 (i : Nat)))]) s)
   (fun s => (fun i => [some (.one 27 [.d (.sl (rows eI l)), .d (.sl (rows eP P))]), some (.one 27 [.d .nils, .d .nils]), some (.one 27 [.d (.sl (rows eI (delI (isN n) l))), .sl 3 0 (remP (P.take i) n).length]), some (.vec 55 2 (rows eP (remP (P.take i) n)))]) s) (fun s => (fun i => P.length - i) s) hnp 0 ?_ [some 0, some 1, some 2, some 3] ?_ ?_
  ·dsimp only
   omega
  ·dsimp only
   refine ⟨by rfl, ?_, ?_⟩
   ·refine fin_ ?_
    exact cl_
   ·refine fin_ ?_
    exact cl_
  ·rintro i hinv N5 h5
   dsimp only at hinv ⊢
   have i1 := hinv
   refine vc_seq_k fun N6 h6 => ?_
   refine vc_seq_k fun N7 h7 => ?_
   refine u_reg ?_
   try refine lg_mk ?_
   refine u_mv ?_
   refine u_pt ?_
   refine u_ld ?_
   refine u_ln ?_
   refine u_bn ?_
   refine lg_nil ?_
   refine h7 _ ?_; clear h7; try clear N7
   refine u_cond (fun hb8 => ?_) (fun hb8 => ?_)
   ·obtain ⟨⟨g, t⟩, hxe⟩ := getE (l := P) (i := i) (by omega)
    have hsn := remP_snoc (n := n) hxe
    have htl : t.length ≤ 20 := hpm _ (mem_at hxe)
    have hdl := delI_len (isN n) t
    have hrl := remP_len (P.take i) n
    rw [List.length_take] at hrl
    refine vc_skip ?_
    try simp only [k_rules]
    refine h6 _ ?_; clear h6; try clear N6
    refine vc_seq_k fun N9 h9 => ?_
    refine vc_block ?_
    refine vc_seq_k fun N10 h10 => ?_
    have hx := And.intro @hxe hx0
    refine u_reg ?_
    try refine lg_mk ?_
    refine u_pt ?_
    refine u_ld ?_
    refine u_mv ?_
    refine u_pt ?_
    refine u_pt ?_
    refine u_ld ?_
    refine u_mv ?_
    have hc := call_rule (E := (E_lessR.at_ 45)) (f := 46) (sp := Spec.pure lessRG) rfl
    have hs := @lessRG.eq_1
    refine u_hp ?_
    refine u_mv ?_
    refine lg_nil ?_
    have hx := hx0
    refine h10 _ ?_; clear h10; try clear N10
    refine vc_seq_k fun N11 h11 => ?_
    refine u_reg ?_
    try refine lg_mk ?_
    refine u_mv ?_
    refine u_ln ?_
    refine u_bn ?_
    refine lg_nil ?_
    refine h11 _ ?_; clear h11; try clear N11
    refine u_cond (fun hb12 => ?_) (fun hb12 => ?_)
    ·have hx := And.intro @hxe hx0
     refine u_reg ?_
     try refine lg_mk ?_
     refine u_pt ?_
     refine u_ld ?_
     refine u_pt ?_
     refine u_ld ?_
     refine u_mv ?_
     refine u_pt ?_
     refine u_pt ?_
     refine u_ld ?_
     refine u_mv ?_
     refine u_bd ?_
     refine u_bs ?_
     refine u_ap ?_
     refine u_pt ?_
     refine u_st ?_
     refine lg_nil ?_
     have hx := hx0
     refine h9 _ ?_; clear h9; try clear N9
     refine u_reg ?_
     try refine lg_mk ?_
     refine u_mv ?_
     refine u_bn ?_
     refine u_mv ?_
     refine lg_nil ?_
     have hne : ¬ delI (isN n) t = [] := fun h => by have := hb12; rw [h] at this; simp at this
     rw [if_neg hne] at hsn
     refine h5 _ ⟨i + 1, ?_, ?_, [some 0, some 1, some 2, some 5], ?_⟩
     ·dsimp only
      omega
     ·dsimp only
      omega
     ·dsimp only
      refine ⟨by rfl, ?_, ?_⟩
      ·refine fin_ ?_
       (repeat' apply And.intro) <;> (first | (first | rfl | trivial | (rw [hsn]; simp; done) | (rw [hsn, List.take_length]; exact eP_snoc _ _ _) | (rw [hsn, ← eP_snoc]; simp; done)) | exact cl_)
      ·refine fin_ ?_
       (repeat' apply And.intro) <;> (first | (first | rfl | trivial | (rw [hsn]; simp; done) | (rw [hsn, List.take_length]; exact eP_snoc _ _ _) | (rw [hsn, ← eP_snoc]; simp; done)) | exact cl_)
    ·refine vc_skip ?_
     try simp only [k_rules]
     refine h9 _ ?_; clear h9; try clear N9
     refine u_reg ?_
     try refine lg_mk ?_
     refine u_mv ?_
     refine u_bn ?_
     refine u_mv ?_
     refine lg_nil ?_
     have hne : delI (isN n) t = [] := List.eq_nil_of_length_eq_zero (by have := hb12; omega)
     rw [if_pos hne, List.append_nil] at hsn
     refine h5 _ ⟨i + 1, ?_, ?_, [some 0, some 1, some 2, some 3], ?_⟩
     ·dsimp only
      omega
     ·dsimp only
      omega
     ·dsimp only
      refine ⟨by rfl, ?_, ?_⟩
      ·refine fin_ ?_
       (repeat' apply And.intro) <;> (first | (first | rfl | trivial | (rw [hsn]; done)) | exact cl_)
      ·refine fin_ ?_
       (repeat' apply And.intro) <;> (first | (first | rfl | trivial | (rw [hsn]; done)) | exact cl_)
   ·refine vc_exit ?_
    simp only [k_rules, Nat.reduceEqDiff, reduceIte, eq_self]
    refine h3 _ ?_; clear h3; try clear N3
    refine vc_seq_k fun N13 h13 => ?_
    refine u_reg ?_
    try refine lg_mk ?_
    refine u_ld ?_
    refine u_st ?_
    refine lg_nil ?_
    refine h13 _ ?_; clear h13; try clear N13
    refine vc_ret ?_
    try simp only [k_rules]
    obtain rfl : i = P.length := by omega
    refine fin2_ ?_
    (repeat' apply And.intro) <;> (first | (first | rfl | exact Or.inl rfl | trivial | (rw [List.take_length]; done) | (simp [List.take_length]; done)) | exact cl_)
 ·cases hg

def E_remT : Env Try.prog := E_lessR.add 26 (Spec.pure remTG) remT_meets (by kernel_rfl)
end Go.Proofs.Ytjdhadbnmghdgaa
