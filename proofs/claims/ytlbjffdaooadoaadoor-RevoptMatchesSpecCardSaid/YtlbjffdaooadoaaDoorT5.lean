/- Walks, printed by wip/gen/walk.py. -/
import Derived.Test.YtlbjffdaooadoaaDoorT4
import Derived.Test.YtlbjffdaooadoaaDoorV5
set_option linter.all false
set_option maxRecDepth 100000
set_option maxHeartbeats 4000000
namespace Go.Proofs.YtlbjffdaooadoaaDoor
open Go Go.Vc Go.RowKit
def smQ (q : List Nd) : Prop := ∀ n ∈ q, -1000 ≤ n.lf ∧ n.lf ≤ 1000 ∧ -1000 ≤ n.rt ∧ n.rt ≤ 1000
def wkN (n : Nd) : Bool := decide (8 ≤ n.kd) && decide (n.kd ≤ 13)
def costK (q : List Nd) : Nat → Int
  | 0 => 0
  | i + 1 => costK q i + 1 + if wkN (q.getD i default) = true then 10 else 0
theorem costK_le (q : List Nd) : ∀ i : Nat, 0 ≤ costK q i ∧ costK q i ≤ 11 * (i : Int)
  | 0 => by simp [costK]
  | i + 1 => by
    have := costK_le q i
    unfold costK
    split <;> omega
def rcostG : List AV → Option (Prop × AV)
  | [.agg [.d (.sl xs)]] => some (xs = rows eN (dN xs) ∧ (dN xs).length ≤ 1000, .d (.int .i64 (costK (dN xs) (dN xs).length)))
  | _ => none
def qeqG : List AV → Option (Prop × AV)
  | [.agg [.d (.sl xs)], .agg [.d (.sl ys)]] => some (xs = rows eN (dN xs) ∧ (dN xs).length ≤ 9223372036854775807 ∧ ys = rows eN (dN ys) ∧ (dN ys).length ≤ 9223372036854775807, .d (.bool (decide (dN xs = dN ys))))
  | _ => none
def shN (m : Nat) (n : Nd) : Nd := ⟨n.kd, n.nm, if 1 ≤ ar n.kd then n.lf + m else n.lf, if ar n.kd = 2 then n.rt + m else n.rt⟩
def jnK (l r : List Nd) (i : Nat) : List Nd := l ++ (r.take i).map (shN l.length)
def jnQ (k : Int) (l r : List Nd) : List Nd := jnK l r r.length ++ [⟨k, 0, (l.length : Int) - 1, (l.length : Int) + r.length - 1⟩]
theorem jnK_len {l r : List Nd} {i : Nat} (h : i ≤ r.length) : (jnK l r i).length = l.length + i := by unfold jnK; rw [List.length_append, List.length_map, List.length_take]; omega
theorem jnK_snoc {l r : List Nd} {i : Nat} {x : Nd} (h : r[i]? = some x) : jnK l r (i + 1) = jnK l r i ++ [shN l.length x] := by unfold jnK; rw [List.take_add_one, h]; simp
theorem eN_snoc (l : List Nd) (a b c d : Int) : rows eN l ++ [[.int .i64 a, .int .i64 b, .int .i64 c, .int .i64 d]] = rows eN (l ++ [⟨a, b, c, d⟩]) := by simp [rows, eN]
def jnG : List AV → Option (Prop × AV)
  | [.d (.int .i64 k), .d (.sl xs), .d (.sl ys)] => some (xs = rows eN (dN xs) ∧ (dN xs).length ≤ 1000 ∧ ys = rows eN (dN ys) ∧ (dN ys).length ≤ 1000 ∧ smQ (dN ys), .d (.sl (rows eN (jnQ k (dN xs) (dN ys)))))
  | _ => none
def joinG : List AV → Option (Prop × AV)
  | [.d (.int .i64 k), .agg [.d (.sl xs)], .agg [.d (.sl ys)]] => some (xs = rows eN (dN xs) ∧ (dN xs).length ≤ 1000 ∧ ys = rows eN (dN ys) ∧ (dN ys).length ≤ 1000 ∧ smQ (dN ys), .agg [.d (.sl (rows eN (jnQ k (dN xs) (dN ys))))])
  | _ => none
def wrQ (k : Int) (l : List Nd) : List Nd := l ++ [⟨k, 0, (l.length : Int) - 1, 0⟩]
def wrG : List AV → Option (Prop × AV)
  | [.d (.int .i64 k), .agg [.d (.sl xs)]] => some (xs = rows eN (dN xs) ∧ (dN xs).length ≤ 1000, .agg [.d (.sl (rows eN (wrQ k (dN xs))))])
  | _ => none
theorem ne_atN {q p : List Nd} {i : Nat} {x y : Nd} (h1 : q[i]? = some x) (h2 : p[i]? = some y) (h : x ≠ y) : q ≠ p := by
  rintro rfl; rw [h1] at h2; exact h (Option.some.inj h2)

theorem rcost_meets : Meets Tryd.prog 18 (Spec.pure rcostG) := by
 refine meets_fun (E_revF.at_ 24) Tryd.func18 rfl rfl rfl ?_
 intro args p r hg hp
 unfold rcostG at hg
 split at hg
 ·rename_i xs
  simp only [Option.some.injEq, Prod.mk.injEq] at hg
  obtain ⟨rfl, rfl⟩ := hg
  obtain ⟨he, hl⟩ := hp
  generalize dN xs = q at *
  subst he
  have hT : (E_revF).X = T := rfl
  have hx0 := And.intro @rect_eN (And.intro @dN_rows (And.intro @dec_t (And.intro @dec_f @Tryd.results18)))
  have hx := hx0
  refine ⟨by rfl, ?_⟩
  intro F W0 hnp hmk
  refine vc_seq_k fun N1 h1 => ?_
  refine u_reg ?_
  try refine lg_mk ?_
  refine u_bx ?_
  refine u_mv ?_
  refine lg_nil ?_
  refine h1 _ ?_; clear h1; try clear N1
  refine vc_seq_k fun N2 h2 => ?_
  refine u_reg ?_
  try refine lg_mk ?_
  refine u_mv ?_
  refine lg_nil ?_
  refine h2 _ ?_; clear h2; try clear N2
  refine vc_seq_k fun N3 h3 => ?_
  refine vc_seq_k fun N4 h4 => ?_
  refine u_reg ?_
  try refine lg_mk ?_
  refine u_mv ?_
  refine lg_nil ?_
  refine h4 _ ?_; clear h4; try clear N4
  refine vc_block ?_
  refine vc_loop_mk (σ := Nat) (fun s => (fun i => i ≤ q.length) s)
   (fun s => (fun i => [(1, .ptr 0 0 0), (3, .d (.int .i64 (costK q i))), (4, .d (.int .i64 (i : Nat)))]) s)
   (fun s => (fun i => [some (.one 24 [.d (.sl (rows eN q))])]) s) (fun s => (fun i => q.length - i) s) hnp 0 ?_ [some 0] ?_ ?_
  ·dsimp only
   omega
  ·dsimp only
   refine ⟨by rfl, ?_, ?_⟩
   ·refine fin_ ?_
    exact cl_
   ·refine fin_ ?_
    exact cl_
  ·rintro i hinv N5 h5
   dsimp only at hinv ⊢
   have i1 := hinv
   refine vc_seq_k fun N6 h6 => ?_
   refine vc_seq_k fun N7 h7 => ?_
   refine u_reg ?_
   try refine lg_mk ?_
   refine u_mv ?_
   refine u_pt ?_
   refine u_ld ?_
   refine u_ln ?_
   refine u_bn ?_
   refine lg_nil ?_
   refine h7 _ ?_; clear h7; try clear N7
   refine u_cond (fun hb8 => ?_) (fun hb8 => ?_)
   ·obtain ⟨x, hxe⟩ := getE (l := q) (i := i) (by have := hb8; omega)
    have hxd : q.getD i default = x := by rw [List.getD_eq_getElem?_getD, hxe]; rfl
    have hcl := costK_le q i
    have hcs : costK q (i + 1) = costK q i + 1 + if wkN x = true then 10 else 0 := by rw [← hxd]; rfl
    obtain ⟨a, b, c, d⟩ := x
    refine vc_skip ?_
    try simp only [k_rules]
    refine h6 _ ?_; clear h6; try clear N6
    refine vc_seq_k fun N9 h9 => ?_
    refine vc_block ?_
    refine vc_seq_k fun N10 h10 => ?_
    refine u_reg ?_
    try refine lg_mk ?_
    refine u_mv ?_
    refine u_bn ?_
    refine u_mv ?_
    refine lg_nil ?_
    refine h10 _ ?_; clear h10; try clear N10
    refine vc_seq_k fun N11 h11 => ?_
    have hx := And.intro @hxe (And.intro @eN.eq_1 hx0)
    refine u_reg ?_
    try refine lg_mk ?_
    refine u_pt ?_
    refine u_ld ?_
    refine u_mv ?_
    refine u_pt ?_
    refine u_pt ?_
    refine u_ld ?_
    have hc := call_rule (E := (E_revF.at_ 24)) (f := 38) (sp := Spec.pure inG) rfl
    have hs := @inG.eq_1
    refine u_cp ?_
    refine lg_nil ?_
    have hx := hx0
    refine h11 _ ?_; clear h11; try clear N11
    refine u_cond (fun hb12 => ?_) (fun hb12 => ?_)
    ·have hw : wkN ⟨a, b, c, d⟩ = true := by unfold wkN; dsimp only; simpa using hb12
     rw [hw, if_pos rfl] at hcs
     refine u_reg ?_
     try refine lg_mk ?_
     refine u_mv ?_
     refine u_bn ?_
     refine u_mv ?_
     refine lg_nil ?_
     refine h9 _ ?_; clear h9; try clear N9
     refine u_reg ?_
     try refine lg_mk ?_
     refine u_mv ?_
     refine u_bn ?_
     refine u_mv ?_
     refine lg_nil ?_
     refine h5 _ ⟨i + 1, ?_, ?_, [some 0], ?_⟩
     ·dsimp only
      omega
     ·dsimp only
      omega
     ·dsimp only
      refine ⟨by rfl, ?_, ?_⟩
      ·refine fin_ ?_
       (repeat' apply And.intro) <;> (first | (first | rfl | trivial | omega | (rw [hcs]; done) | (left; rw [hcs]; done)) | exact cl_)
      ·refine fin_ ?_
       (repeat' apply And.intro) <;> (first | (first | rfl | trivial | omega | (rw [hcs]; done) | (left; rw [hcs]; done)) | exact cl_)
    ·have hw : wkN ⟨a, b, c, d⟩ = false := by unfold wkN; dsimp only; simpa using hb12
     rw [hw, if_neg (by simp)] at hcs
     refine vc_skip ?_
     try simp only [k_rules]
     refine h9 _ ?_; clear h9; try clear N9
     refine u_reg ?_
     try refine lg_mk ?_
     refine u_mv ?_
     refine u_bn ?_
     refine u_mv ?_
     refine lg_nil ?_
     refine h5 _ ⟨i + 1, ?_, ?_, [some 0], ?_⟩
     ·dsimp only
      omega
     ·dsimp only
      omega
     ·dsimp only
      refine ⟨by rfl, ?_, ?_⟩
      ·refine fin_ ?_
       (repeat' apply And.intro) <;> (first | (first | rfl | trivial | omega | (rw [hcs, Int.add_zero]; done) | (left; rw [hcs, Int.add_zero]; done)) | exact cl_)
      ·refine fin_ ?_
       (repeat' apply And.intro) <;> (first | (first | rfl | trivial | omega | (rw [hcs, Int.add_zero]; done) | (left; rw [hcs, Int.add_zero]; done)) | exact cl_)
   ·refine vc_exit ?_
    simp only [k_rules, Nat.reduceEqDiff, reduceIte, eq_self]
    refine h3 _ ?_; clear h3; try clear N3
    refine vc_seq_k fun N13 h13 => ?_
    refine u_reg ?_
    try refine lg_mk ?_
    refine u_mv ?_
    refine u_mv ?_
    refine lg_nil ?_
    refine h13 _ ?_; clear h13; try clear N13
    refine vc_ret ?_
    try simp only [k_rules]
    obtain rfl : i = q.length := by omega
    refine fin2_ ?_
    exact cl_
 ·cases hg

def E_rcost : Env Tryd.prog := E_revF.add 18 (Spec.pure rcostG) rcost_meets (by kernel_rfl)

theorem qeq_meets : Meets Tryd.prog 19 (Spec.pure qeqG) := by
 refine meets_fun (E_rcost.at_ 31) Tryd.func19 rfl rfl rfl ?_
 intro args p r hg hp
 unfold qeqG at hg
 split at hg
 ·rename_i xs ys
  simp only [Option.some.injEq, Prod.mk.injEq] at hg
  obtain ⟨rfl, rfl⟩ := hg
  obtain ⟨he, hl, he2, hl2⟩ := hp
  generalize dN xs = q at *
  generalize dN ys = p at *
  subst he he2
  have hT : (E_rcost).X = T := rfl
  have hx0 := And.intro @rect_eN (And.intro @dN_rows (And.intro @dec_t (And.intro @dec_f @Tryd.results19)))
  have hx := hx0
  refine ⟨by rfl, ?_⟩
  intro F W0 hnp hmk
  refine vc_seq_k fun N1 h1 => ?_
  refine u_reg ?_
  try refine lg_mk ?_
  refine u_bx ?_
  refine u_bx ?_
  refine u_mv ?_
  refine lg_nil ?_
  refine h1 _ ?_; clear h1; try clear N1
  refine vc_seq_k fun N2 h2 => ?_
  refine vc_seq_k fun N3 h3 => ?_
  refine u_reg ?_
  try refine lg_mk ?_
  refine u_pt ?_
  refine u_ld ?_
  refine u_ln ?_
  refine u_pt ?_
  refine u_ld ?_
  refine u_ln ?_
  refine u_bn ?_
  refine lg_nil ?_
  refine h3 _ ?_; clear h3; try clear N3
  refine u_cond (fun hb4 => ?_) (fun hb4 => ?_)
  ·refine vc_seq_k fun N5 h5 => ?_
   refine u_reg ?_
   try refine lg_mk ?_
   refine u_mv ?_
   refine lg_nil ?_
   refine h5 _ ?_; clear h5; try clear N5
   refine vc_ret ?_
   try simp only [k_rules]
   have hr : decide (q = p) = false := decide_eq_false (fun h => by have h9 := hb4; subst h; simp at h9)
   rw [hr]
   refine fin2_ ?_
   exact cl_
  ·refine vc_skip ?_
   try simp only [k_rules]
   refine h2 _ ?_; clear h2; try clear N2
   refine vc_seq_k fun N6 h6 => ?_
   refine vc_seq_k fun N7 h7 => ?_
   refine u_reg ?_
   try refine lg_mk ?_
   refine u_mv ?_
   refine lg_nil ?_
   refine h7 _ ?_; clear h7; try clear N7
   refine vc_block ?_
   refine vc_loop_mk (σ := Nat) (fun s => (fun i => q.length = p.length ∧ i ≤ q.length ∧ q.take i = p.take i) s)
    (fun s => (fun i => [(2, .ptr 0 0 0), (3, .ptr 1 0 0), (5, .d (.int .i64 (i : Nat)))]) s)
    (fun s => (fun i => [some (.one 24 [.d (.sl (rows eN q))]), some (.one 24 [.d (.sl (rows eN p))])]) s) (fun s => (fun i => q.length - i) s) hnp 0 ?_ [some 0, some 1] ?_ ?_
   ·dsimp only
    exact ⟨by have := hb4; (try simp at this); omega, by omega, rfl⟩
   ·dsimp only
    refine ⟨by rfl, ?_, ?_⟩
    ·refine fin_ ?_
     exact cl_
    ·refine fin_ ?_
     exact cl_
   ·rintro i hinv N8 h8
    dsimp only at hinv ⊢
    obtain ⟨i1, i2, i3⟩ := hinv
    refine vc_seq_k fun N9 h9 => ?_
    refine vc_seq_k fun N10 h10 => ?_
    refine u_reg ?_
    try refine lg_mk ?_
    refine u_mv ?_
    refine u_pt ?_
    refine u_ld ?_
    refine u_ln ?_
    refine u_bn ?_
    refine lg_nil ?_
    refine h10 _ ?_; clear h10; try clear N10
    refine u_cond (fun hb11 => ?_) (fun hb11 => ?_)
    ·obtain ⟨x, hxe⟩ := getE (l := q) (i := i) (by have := hb11; omega)
     obtain ⟨y, hye⟩ := getE (l := p) (i := i) (by have := hb11; omega)
     obtain ⟨a, b, c, d⟩ := x
     obtain ⟨a', b', c', d'⟩ := y
     refine vc_skip ?_
     try simp only [k_rules]
     refine h9 _ ?_; clear h9; try clear N9
     refine vc_seq_k fun N12 h12 => ?_
     refine vc_block ?_
     refine vc_seq_k fun N13 h13 => ?_
     have hx := And.intro @hxe (And.intro @hye (And.intro @eN.eq_1 hx0))
     refine u_reg ?_
     try refine lg_mk ?_
     refine u_pt ?_
     refine u_ld ?_
     refine u_mv ?_
     refine u_pt ?_
     refine u_ld ?_
     refine u_pt ?_
     refine u_ld ?_
     refine u_mv ?_
     refine u_pt ?_
     refine u_ld ?_
     refine u_bn ?_
     refine lg_nil ?_
     have hx := hx0
     refine h13 _ ?_; clear h13; try clear N13
     refine u_cond (fun hb14 => ?_) (fun hb14 => ?_)
     ·have hne : (⟨a, b, c, d⟩ : Nd) ≠ ⟨a', b', c', d'⟩ := by have h9 := hb14; intro he; simp only [Nd.mk.injEq] at he; obtain ⟨rfl, rfl, rfl, rfl⟩ := he; simp at h9
      refine vc_seq_k fun N15 h15 => ?_
      refine u_reg ?_
      try refine lg_mk ?_
      refine u_mv ?_
      refine lg_nil ?_
      refine h15 _ ?_; clear h15; try clear N15
      refine vc_ret ?_
      try simp only [k_rules]
      have hr : decide (q = p) = false := decide_eq_false (ne_atN hxe hye hne)
      rw [hr]
      refine fin2_ ?_
      exact cl_
     ·have heq : (⟨a, b, c, d⟩ : Nd) = ⟨a', b', c', d'⟩ := by have h9 := hb14; simpa using h9
      refine vc_skip ?_
      try simp only [k_rules]
      refine h12 _ ?_; clear h12; try clear N12
      refine u_reg ?_
      try refine lg_mk ?_
      refine u_mv ?_
      refine u_bn ?_
      refine u_mv ?_
      refine lg_nil ?_
      refine h8 _ ⟨i + 1, ?_, ?_, [some 0, some 1], ?_⟩
      ·dsimp only
       refine ⟨i1, by omega, ?_⟩
       rw [heq] at hxe
       exact take_at hxe hye i3
      ·dsimp only
       omega
      ·dsimp only
       refine ⟨by rfl, ?_, ?_⟩
       ·refine fin_ ?_
        exact cl_
       ·refine fin_ ?_
        exact cl_
    ·refine vc_exit ?_
     simp only [k_rules, Nat.reduceEqDiff, reduceIte, eq_self]
     refine h6 _ ?_; clear h6; try clear N6
     refine vc_seq_k fun N16 h16 => ?_
     refine u_reg ?_
     try refine lg_mk ?_
     refine u_mv ?_
     refine lg_nil ?_
     refine h16 _ ?_; clear h16; try clear N16
     refine vc_ret ?_
     try simp only [k_rules]
     have hr : decide (q = p) = true := decide_eq_true (by rw [List.take_of_length_le (by omega), List.take_of_length_le (by omega)] at i3; exact i3)
     rw [hr]
     refine fin2_ ?_
     exact cl_
 ·cases hg

def E_qeq : Env Tryd.prog := E_rcost.add 19 (Spec.pure qeqG) qeq_meets (by kernel_rfl)
end Go.Proofs.YtlbjffdaooadoaaDoor
