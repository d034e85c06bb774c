/- Walks, printed by wip/gen/walk.py. -/
import Derived.Test.YtlbjffdaooadoaaDoorT31
import Derived.Test.YtlbjffdaooadoaaDoorV5
set_option linter.all false
set_option maxRecDepth 100000
set_option maxHeartbeats 4000000
namespace Go.Proofs.YtlbjffdaooadoaaDoor
open Go Go.Vc Go.RowKit
def smQ (q : List Nd) : Prop := ∀ n ∈ q, -1000 ≤ n.lf ∧ n.lf ≤ 1000 ∧ -1000 ≤ n.rt ∧ n.rt ≤ 1000
def wkN (n : Nd) : Bool := decide (8 ≤ n.kd) && decide (n.kd ≤ 13)
def costK (q : List Nd) : Nat → Int
  | 0 => 0
  | i + 1 => costK q i + 1 + if wkN (q.getD i default) = true then 10 else 0
theorem costK_le (q : List Nd) : ∀ i : Nat, 0 ≤ costK q i ∧ costK q i ≤ 11 * (i : Int)
  | 0 => by simp [costK]
  | i + 1 => by
    have := costK_le q i
    unfold costK
    split <;> omega
def rcostG : List AV → Option (Prop × AV)
  | [.agg [.d (.sl xs)]] => some (xs = rows eN (dN xs) ∧ (dN xs).length ≤ 1000, .d (.int .i64 (costK (dN xs) (dN xs).length)))
  | _ => none
def qeqG : List AV → Option (Prop × AV)
  | [.agg [.d (.sl xs)], .agg [.d (.sl ys)]] => some (xs = rows eN (dN xs) ∧ (dN xs).length ≤ 9223372036854775807 ∧ ys = rows eN (dN ys) ∧ (dN ys).length ≤ 9223372036854775807, .d (.bool (decide (dN xs = dN ys))))
  | _ => none
def shN (m : Nat) (n : Nd) : Nd := ⟨n.kd, n.nm, if 1 ≤ ar n.kd then n.lf + m else n.lf, if ar n.kd = 2 then n.rt + m else n.rt⟩
def jnK (l r : List Nd) (i : Nat) : List Nd := l ++ (r.take i).map (shN l.length)
def jnQ (k : Int) (l r : List Nd) : List Nd := jnK l r r.length ++ [⟨k, 0, (l.length : Int) - 1, (l.length : Int) + r.length - 1⟩]
theorem jnK_len {l r : List Nd} {i : Nat} (h : i ≤ r.length) : (jnK l r i).length = l.length + i := by unfold jnK; rw [List.length_append, List.length_map, List.length_take]; omega
theorem jnK_snoc {l r : List Nd} {i : Nat} {x : Nd} (h : r[i]? = some x) : jnK l r (i + 1) = jnK l r i ++ [shN l.length x] := by unfold jnK; rw [List.take_add_one, h]; simp
theorem eN_snoc (l : List Nd) (a b c d : Int) : rows eN l ++ [[.int .i64 a, .int .i64 b, .int .i64 c, .int .i64 d]] = rows eN (l ++ [⟨a, b, c, d⟩]) := by simp [rows, eN]
def jnG : List AV → Option (Prop × AV)
  | [.d (.int .i64 k), .d (.sl xs), .d (.sl ys)] => some (xs = rows eN (dN xs) ∧ (dN xs).length ≤ 1000 ∧ ys = rows eN (dN ys) ∧ (dN ys).length ≤ 1000 ∧ smQ (dN ys), .d (.sl (rows eN (jnQ k (dN xs) (dN ys)))))
  | _ => none
def joinG : List AV → Option (Prop × AV)
  | [.d (.int .i64 k), .agg [.d (.sl xs)], .agg [.d (.sl ys)]] => some (xs = rows eN (dN xs) ∧ (dN xs).length ≤ 1000 ∧ ys = rows eN (dN ys) ∧ (dN ys).length ≤ 1000 ∧ smQ (dN ys), .agg [.d (.sl (rows eN (jnQ k (dN xs) (dN ys))))])
  | _ => none
def wrQ (k : Int) (l : List Nd) : List Nd := l ++ [⟨k, 0, (l.length : Int) - 1, 0⟩]
def wrG : List AV → Option (Prop × AV)
  | [.d (.int .i64 k), .agg [.d (.sl xs)]] => some (xs = rows eN (dN xs) ∧ (dN xs).length ≤ 1000, .agg [.d (.sl (rows eN (wrQ k (dN xs))))])
  | _ => none
theorem ne_atN {q p : List Nd} {i : Nat} {x y : Nd} (h1 : q[i]? = some x) (h2 : p[i]? = some y) (h : x ≠ y) : q ≠ p := by
  rintro rfl; rw [h1] at h2; exact h (Option.some.inj h2)

theorem qeq_meets : Meets Tryd.prog 19 (Spec.pure qeqG) := by
 refine meets_fun (E_exq.at_ 31) Tryd.func19 rfl rfl rfl ?_
 intro args p r hg hp
 unfold qeqG at hg
 split at hg
 ·rename_i xs ys
  simp only [Option.some.injEq, Prod.mk.injEq] at hg
  obtain ⟨rfl, rfl⟩ := hg
  obtain ⟨he, hl, he2, hl2⟩ := hp
  generalize dN xs = q at *
  generalize dN ys = p at *
  subst he he2
  have hT : (E_exq).X = T := rfl
  have hx0 := And.intro @rect_eN (And.intro @dN_rows (And.intro @dec_t (And.intro @dec_f @Tryd.results19)))
  have hx := hx0
  refine ⟨by rfl, ?_⟩
  intro F W0 hnp hmk
  refine vc_seq_k fun N1 h1 => ?_
  refine u_reg ?_
  try refine lg_mk ?_
  refine u_bx ?_
  refine u_bx ?_
  refine u_mv ?_
  refine lg_nil ?_
  refine h1 _ ?_; clear h1; try clear N1
  refine vc_seq_k fun N2 h2 => ?_
  refine vc_seq_k fun N3 h3 => ?_
  refine u_reg ?_
  try refine lg_mk ?_
  refine u_pt ?_
  refine u_ld ?_
  refine u_ln ?_
  refine u_pt ?_
  refine u_ld ?_
  refine u_ln ?_
  refine u_bn ?_
  refine lg_nil ?_
  refine h3 _ ?_; clear h3; try clear N3
  refine u_cond (fun hb4 => ?_) (fun hb4 => ?_)
  ·refine vc_seq_k fun N5 h5 => ?_
   refine u_reg ?_
   try refine lg_mk ?_
   refine u_mv ?_
   refine lg_nil ?_
   refine h5 _ ?_; clear h5; try clear N5
   refine vc_ret ?_
   try simp only [k_rules]
   have hr : decide (q = p) = false := decide_eq_false (fun h => by have h9 := hb4; subst h; simp at h9)
   rw [hr]
   refine fin2_ ?_
   exact cl_
  ·refine vc_skip ?_
   try simp only [k_rules]
   refine h2 _ ?_; clear h2; try clear N2
   refine vc_seq_k fun N6 h6 => ?_
   refine vc_seq_k fun N7 h7 => ?_
   refine u_reg ?_
   try refine lg_mk ?_
   refine u_mv ?_
   refine lg_nil ?_
   refine h7 _ ?_; clear h7; try clear N7
   refine vc_block ?_
   refine vc_loop_mk (σ := Nat) (fun s => (fun i => q.length = p.length ∧ i ≤ q.length ∧ q.take i = p.take i) s)
    (fun s => (fun i => [(2, .ptr 0 0 0), (3, .ptr 1 0 0), (5, .d (.int .i64 (i : Nat)))]) s)
    (fun s => (fun i => [some (.one 24 [.d (.sl (rows eN q))]), some (.one 24 [.d (.sl (rows eN p))])]) s) (fun s => (fun i => q.length - i) s) hnp 0 ?_ [some 0, some 1] ?_ ?_
   ·dsimp only
    exact ⟨by have := hb4; (try simp at this); omega, by omega, rfl⟩
   ·dsimp only
    refine ⟨by rfl, ?_, ?_⟩
    ·refine fin_ ?_
     exact cl_
    ·refine fin_ ?_
     exact cl_
   ·rintro i hinv N8 h8
    dsimp only at hinv ⊢
    obtain ⟨i1, i2, i3⟩ := hinv
    refine vc_seq_k fun N9 h9 => ?_
    refine vc_seq_k fun N10 h10 => ?_
    refine u_reg ?_
    try refine lg_mk ?_
    refine u_mv ?_
    refine u_pt ?_
    refine u_ld ?_
    refine u_ln ?_
    refine u_bn ?_
    refine lg_nil ?_
    refine h10 _ ?_; clear h10; try clear N10
    refine u_cond (fun hb11 => ?_) (fun hb11 => ?_)
    ·obtain ⟨x, hxe⟩ := getE (l := q) (i := i) (by have := hb11; omega)
     obtain ⟨y, hye⟩ := getE (l := p) (i := i) (by have := hb11; omega)
     obtain ⟨a, b, c, d⟩ := x
     obtain ⟨a', b', c', d'⟩ := y
     refine vc_skip ?_
     try simp only [k_rules]
     refine h9 _ ?_; clear h9; try clear N9
     refine vc_seq_k fun N12 h12 => ?_
     refine vc_block ?_
     refine vc_seq_k fun N13 h13 => ?_
     have hx := And.intro @hxe (And.intro @hye (And.intro @eN.eq_1 hx0))
     refine u_reg ?_
     try refine lg_mk ?_
     refine u_pt ?_
     refine u_ld ?_
     refine u_mv ?_
     refine u_pt ?_
     refine u_ld ?_
     refine u_pt ?_
     refine u_ld ?_
     refine u_mv ?_
     refine u_pt ?_
     refine u_ld ?_
     refine u_bn ?_
     refine lg_nil ?_
     have hx := hx0
     refine h13 _ ?_; clear h13; try clear N13
     refine u_cond (fun hb14 => ?_) (fun hb14 => ?_)
     ·have hne : (⟨a, b, c, d⟩ : Nd) ≠ ⟨a', b', c', d'⟩ := by have h9 := hb14; intro he; simp only [Nd.mk.injEq] at he; obtain ⟨rfl, rfl, rfl, rfl⟩ := he; simp at h9
      refine vc_seq_k fun N15 h15 => ?_
      refine u_reg ?_
      try refine lg_mk ?_
      refine u_mv ?_
      refine lg_nil ?_
      refine h15 _ ?_; clear h15; try clear N15
      refine vc_ret ?_
      try simp only [k_rules]
      have hr : decide (q = p) = false := decide_eq_false (ne_atN hxe hye hne)
      rw [hr]
      refine fin2_ ?_
      exact cl_
     ·have heq : (⟨a, b, c, d⟩ : Nd) = ⟨a', b', c', d'⟩ := by have h9 := hb14; simpa using h9
      refine vc_skip ?_
      try simp only [k_rules]
      refine h12 _ ?_; clear h12; try clear N12
      refine u_reg ?_
      try refine lg_mk ?_
      refine u_mv ?_
      refine u_bn ?_
      refine u_mv ?_
      refine lg_nil ?_
      refine h8 _ ⟨i + 1, ?_, ?_, [some 0, some 1], ?_⟩
      ·dsimp only
       refine ⟨i1, by omega, ?_⟩
       rw [heq] at hxe
       exact take_at hxe hye i3
      ·dsimp only
       omega
      ·dsimp only
       refine ⟨by rfl, ?_, ?_⟩
       ·refine fin_ ?_
        exact cl_
       ·refine fin_ ?_
        exact cl_
    ·refine vc_exit ?_
     simp only [k_rules, Nat.reduceEqDiff, reduceIte, eq_self]
     refine h6 _ ?_; clear h6; try clear N6
     refine vc_seq_k fun N16 h16 => ?_
     refine u_reg ?_
     try refine lg_mk ?_
     refine u_mv ?_
     refine lg_nil ?_
     refine h16 _ ?_; clear h16; try clear N16
     refine vc_ret ?_
     try simp only [k_rules]
     have hr : decide (q = p) = true := decide_eq_true (by rw [List.take_of_length_le (by omega), List.take_of_length_le (by omega)] at i3; exact i3)
     rw [hr]
     refine fin2_ ?_
     exact cl_
 ·cases hg

def E_qeq : Env Tryd.prog := E_exq.add 19 (Spec.pure qeqG) qeq_meets (by kernel_rfl)

theorem val_code {q : List Nd} (h : valQ q ≠ (0, 0)) : (valQ q).1 ≠ 0 := by
  intro h0
  unfold valQ at h h0
  split at h
  · rename_i h1; rw [if_pos h1] at h0; exact absurd h0 (by decide)
  · rename_i h1
    rw [if_neg h1] at h0
    split at h
    · rename_i h2; rw [if_pos h2] at h0; exact h2 h0
    · rename_i h2
      rw [if_neg h2] at h0
      split at h
      · rename_i h3; rw [if_pos h3] at h0; exact absurd h0 (by decide)
      · exact h rfl

/-- The state whose next token is the one behind place e. -/
def SC (t : Bs) (e : Nat) (ns : List Nd) : PS := ⟨scnP t e, scnE t (scnP t e), ns, 0⟩
def opT (t : Bs) (e j : Nat) : Int := opK (tokS t (SC t e [])) j
/-- The token w stands at place e. -/
def Tk (t : Bs) (e : Nat) (w : Bs) : Prop := ∀ ns, SC t e ns = ⟨e, e + w.length, ns, 0⟩ ∧ tokS t (SC t e ns) = w ∧ scanS t (SC t e ns) = SC t (e + w.length) ns
def lwB (c : UInt8) : Bool := inB 97 122 c
def dgB (c : UInt8) : Bool := inB 48 57 c
def hdB (p : UInt8 → Bool) : Bs → Bool
  | [] => false
  | c :: _ => p c
def brk (B : Bs) : Prop := hdB (fun c => !(decide (c = 32) || decide (c = 41))) B = false
theorem tw_pre {p : UInt8 → Bool} {B : Bs} (hB : hdB p B = false) : ∀ {w : Bs}, w.all p = true → (w ++ B).takeWhile p = w
  | [], _ => by
    cases B with
    | nil => rfl
    | cons c B => show (c :: B).takeWhile p = []; rw [List.takeWhile_cons, if_neg (by rw [show p c = false from hB]; simp)]
  | c :: w, h => by
    simp only [List.all_cons, Bool.and_eq_true] at h
    show (c :: (w ++ B)).takeWhile p = _
    rw [List.takeWhile_cons, if_pos h.1, tw_pre hB h.2]
theorem tw_no {p : UInt8 → Bool} {B : Bs} (hB : hdB p B = false) : B.takeWhile p = [] := tw_pre (w := []) hB rfl
theorem scn_at {t : Bs} {e : Nat} {B : Bs} (hd : t.drop e = B) (h : hdB (inB 32 32) B = false) : scnP t e = e := by
  unfold scnP runN; rw [hd, tw_no h]; rfl
theorem drop_le {t w B : Bs} {e : Nat} (hd : t.drop e = w ++ B) (h : w ≠ []) : e + w.length ≤ t.length ∧ e < t.length := by
  have h1 := congrArg List.length hd
  have := List.length_pos_iff.2 h
  rw [List.length_drop, List.length_append] at h1
  omega
theorem drop_more {t w B : Bs} {e : Nat} (hd : t.drop e = w ++ B) : t.drop (e + w.length) = B := by
  rw [← List.drop_drop, hd, List.drop_left]
theorem tok_is {t w B : Bs} {e : Nat} (hd : t.drop e = w ++ B) : tokN t e (e + w.length) = w := by
  unfold tokN; rw [hd, Nat.add_sub_cancel_left, List.take_left]
theorem tk_mk {t w B : Bs} {e : Nat} (hd : t.drop e = w ++ B) (h1 : scnP t e = e) (h2 : scnE t e = e + w.length) : Tk t e w := by
  intro ns
  have h : SC t e ns = ⟨e, e + w.length, ns, 0⟩ := by unfold SC; rw [h1, h2]
  refine ⟨h, ?_, ?_⟩
  · rw [h]; exact tok_is hd
  · rw [h]; rfl
theorem in_dis {c : UInt8} {a b lo hi : Int} (h : inB a b c = true) (hd : b < lo ∨ hi < a) : inB lo hi c = false := by
  unfold inB at h ⊢
  simp only [Bool.and_eq_true, decide_eq_true_eq] at h
  cases hh : (decide (lo ≤ (c.toNat : Int)) && decide ((c.toNat : Int) ≤ hi)) with
  | false => rfl
  | true => simp only [Bool.and_eq_true, decide_eq_true_eq] at hh; omega
theorem tk_word {t w B : Bs} {e : Nat} (hd : t.drop e = w ++ B) (hw : w.all lwB = true) (h0 : w ≠ []) (hB : hdB lwB B = false) : Tk t e w := by
  obtain ⟨c, r, rfl⟩ : ∃ c r, w = c :: r := by cases w with
    | nil => exact absurd rfl h0
    | cons c r => exact ⟨c, r, rfl⟩
  have hc : inB 97 122 c = true := by simp only [List.all_cons, Bool.and_eq_true] at hw; exact hw.1
  refine tk_mk hd (scn_at hd (in_dis hc (by omega))) ?_
  have e1 : runN t 97 122 e = e + (c :: r).length := by unfold runN; rw [hd, show (c :: r ++ B).takeWhile (inB 97 122) = c :: r from tw_pre hB hw]
  have e2 : runN t 48 57 e = e := by unfold runN; rw [hd, show (c :: r ++ B).takeWhile (inB 48 57) = [] from tw_no (B := c :: (r ++ B)) (show inB 48 57 c = false from in_dis hc (by omega))]; rfl
  unfold scnE
  rw [e1, e2, if_neg (by simp)]
  simp
theorem tk_num {t w B : Bs} {e : Nat} (hd : t.drop e = w ++ B) (hw : w.all dgB = true) (h0 : w ≠ []) (hB : hdB dgB B = false) : Tk t e w := by
  obtain ⟨c, r, rfl⟩ : ∃ c r, w = c :: r := by cases w with
    | nil => exact absurd rfl h0
    | cons c r => exact ⟨c, r, rfl⟩
  have hc : inB 48 57 c = true := by simp only [List.all_cons, Bool.and_eq_true] at hw; exact hw.1
  refine tk_mk hd (scn_at hd (in_dis hc (by omega))) ?_
  have e1 : runN t 48 57 e = e + (c :: r).length := by unfold runN; rw [hd, show (c :: r ++ B).takeWhile (inB 48 57) = c :: r from tw_pre hB hw]
  have e2 : runN t 97 122 e = e := by unfold runN; rw [hd, show (c :: r ++ B).takeWhile (inB 97 122) = [] from tw_no (B := c :: (r ++ B)) (show inB 97 122 c = false from in_dis hc (by omega))]; rfl
  unfold scnE
  rw [e1, e2, if_neg (by simp)]
  simp
theorem tk_one {t B : Bs} {e : Nat} {c : UInt8} (hd : t.drop e = [c] ++ B) (h1 : inB 32 32 c = false) (h2 : lwB c = false) (h3 : dgB c = false) : Tk t e [c] := by
  refine tk_mk hd (scn_at hd h1) ?_
  have e1 : runN t 97 122 e = e := by unfold runN; rw [hd, show ([c] ++ B).takeWhile (inB 97 122) = [] from tw_no (B := c :: B) h2]; rfl
  have e2 : runN t 48 57 e = e := by unfold runN; rw [hd, show ([c] ++ B).takeWhile (inB 48 57) = [] from tw_no (B := c :: B) h3]; rfl
  unfold scnE
  rw [e1, e2, if_pos ⟨by simp, (drop_le hd (by simp)).2⟩]
  rfl
theorem sc_skip {t B : Bs} {e : Nat} (hd : t.drop e = [32] ++ B) (ns : List Nd) : SC t e ns = SC t (e + 1) ns := by
  have hx : t[e]? = some 32 := by
    have := congrArg (·[0]?) hd
    simpa [List.getElem?_drop] using this
  have : scnP t e = scnP t (e + 1) := (runs_in hx rfl).symm
  unfold SC; rw [this]
theorem opT_ns (t : Bs) (e j : Nat) (ns : List Nd) : opK (tokS t (SC t e ns)) j = opT t e j := rfl
theorem brk_lw {B : Bs} (h : brk B) : hdB lwB B = false := by
  cases B with
  | nil => rfl
  | cons c B =>
    have h : (!(decide (c = 32) || decide (c = 41))) = false := h
    simp only [Bool.not_eq_false', Bool.or_eq_true, decide_eq_true_eq] at h
    rcases h with rfl | rfl <;> rfl
theorem brk_dg {B : Bs} (h : brk B) : hdB dgB B = false := by
  cases B with
  | nil => rfl
  | cons c B =>
    have h : (!(decide (c = 32) || decide (c = 41))) = false := h
    simp only [Bool.not_eq_false', Bool.or_eq_true, decide_eq_true_eq] at h
    rcases h with rfl | rfl <;> rfl
theorem brk_par (B : Bs) : brk ([41] ++ B) := rfl
def frm (q : List Nd) (i : Nat) : List Nd := q.take (i + 1 - szI q i)
/-- The text w of node i is read as a unary; as a query of level j, whose loop then goes on. -/
def P3 (t : Bs) (q : List Nd) (i : Nat) (w : Bs) : Prop := ∀ e B, t.drop e = w ++ B → brk B → ∀ f, 5 * w.length ≤ f → pF t f 3 (SC t e (frm q i)) = some (true, (i : Int), SC t (e + w.length) (q.take (i + 1)))
def PL (t : Bs) (q : List Nd) (i j : Nat) (w : Bs) : Prop := ∀ e B, t.drop e = w ++ B → brk B → (∀ k, j < k → k < 2 → opT t (e + w.length) k = 0) → ∀ f, 5 * w.length + 2 - j ≤ f →
  ∃ g, t.length + 1 ≤ g + w.length ∧ pF t (f + 1) j (SC t e (frm q i)) = lpF t (pF t f (j + 1)) j g (i : Int) (SC t (e + w.length) (q.take (i + 1)))
theorem pF_lo (t : Bs) (f j : Nat) (s : PS) (h : j < 2) : pF t (f + 1) j s = bindF (pF t f (j + 1) s) fun x s1 => lpF t (pF t f (j + 1)) j (t.length + 1) x s1 := by rw [pF, if_pos h]
theorem pF_two (t : Bs) (f : Nat) (s : PS) : pF t (f + 1) 2 s = pF t f 3 s := by rw [pF]; rfl
theorem pF_thr (t : Bs) (f : Nat) (s : PS) : pF t (f + 1) 3 s = if tokS t s = [33] then bindF (pF t f 3 (scanS t s)) fun x s1 => putN s1 ⟨7, 0, x, 0⟩ else pF t f 4 s := by rw [pF]; rfl
theorem pF_fou (t : Bs) (f : Nat) (s : PS) : pF t (f + 1) 4 s = prF t (pF t f 0) s := by rw [pF]; rfl
theorem lp_stop (t : Bs) (sub : PS → PR) (j g : Nat) (x : Int) (s : PS) (h : opK (tokS t s) j = 0) : lpF t sub j (g + 1) x s = some (true, x, s) := by rw [lpF, if_pos h]
theorem lp_go (t : Bs) (sub : PS → PR) (j g : Nat) (x : Int) (s : PS) (h : opK (tokS t s) j ≠ 0) : lpF t sub j (g + 1) x s = bindF (sub (scanS t s)) fun y s1 => lpF t sub j g (s1.ns.length : Int) (addN s1 ⟨opK (tokS t s) j, 0, x, y⟩) := by rw [lpF, if_neg h]
theorem w_le {t w B : Bs} {e : Nat} (hd : t.drop e = w ++ B) : w.length ≤ t.length := by
  have h1 := congrArg List.length hd
  rw [List.length_drop, List.length_append] at h1
  omega
theorem pl_one {t : Bs} {q : List Nd} {i : Nat} {w : Bs} (h : P3 t q i w) : PL t q i 1 w := by
  intro e B hd hB _ f hf
  obtain ⟨f, rfl⟩ : ∃ f', f = f' + 1 := ⟨f - 1, by omega⟩
  refine ⟨t.length + 1, by omega, ?_⟩
  rw [pF_lo t (f + 1) 1 _ (by omega), pF_two, h e B hd hB f (by omega)]
  rfl
theorem pl_stop {t : Bs} {q : List Nd} {i j : Nat} {w : Bs} (h : PL t q i j w) {e : Nat} {B : Bs} (hd : t.drop e = w ++ B) (hB : brk B) (ho : ∀ k, j ≤ k → k < 2 → opT t (e + w.length) k = 0) (hj : j < 2) {f : Nat} (hf : 5 * w.length + 2 - j ≤ f) :
    pF t (f + 1) j (SC t e (frm q i)) = some (true, (i : Int), SC t (e + w.length) (q.take (i + 1))) := by
  obtain ⟨g, hg, h⟩ := h e B hd hB (fun k h1 h2 => ho k (by omega) h2) f hf
  have := w_le hd
  obtain ⟨g, rfl⟩ : ∃ g', g = g' + 1 := ⟨g - 1, by omega⟩
  rw [h]
  exact lp_stop _ _ _ _ _ _ (ho j (by omega) hj)
theorem pl_zero {t : Bs} {q : List Nd} {i : Nat} {w : Bs} (h : PL t q i 1 w) : PL t q i 0 w := by
  intro e B hd hB ho f hf
  obtain ⟨f, rfl⟩ : ∃ f', f = f' + 1 := ⟨f - 1, by omega⟩
  refine ⟨t.length + 1, by omega, ?_⟩
  rw [pF_lo t (f + 1) 0 _ (by omega), pl_stop h hd hB (fun k h1 h2 => ho k (by omega) h2) (by omega) (by omega)]
  rfl
theorem opK_par (j : Nat) : opK [41] j = 0 := by simp [opK]
theorem opK_nil (j : Nat) : opK [] j = 0 := by simp [opK]
/-- A text of level 0 ahead of a closing parenthesis. -/
theorem pl_par {t : Bs} {q : List Nd} {i : Nat} {w : Bs} (h : PL t q i 0 w) {e : Nat} {B : Bs} (hd : t.drop e = w ++ ([41] ++ B)) {f : Nat} (hf : 5 * w.length + 3 ≤ f) :
    pF t f 0 (SC t e (frm q i)) = some (true, (i : Int), SC t (e + w.length) (q.take (i + 1))) ∧ Tk t (e + w.length) [41] := by
  have hk : Tk t (e + w.length) [41] := tk_one (drop_more hd) rfl rfl rfl
  obtain ⟨f, rfl⟩ : ∃ f', f = f' + 1 := ⟨f - 1, by omega⟩
  exact ⟨pl_stop h hd (brk_par B) (fun k _ _ => by unfold opT; rw [(hk []).2.1]; exact opK_par k) (by omega) (by omega), hk⟩
theorem take_ok {t : Bs} {e : Nat} {w : Bs} (hk : Tk t e w) (h0 : w ≠ []) (ns : List Nd) : takeB t (SC t e ns) w = true ∧ takeS t (SC t e ns) w = SC t (e + w.length) ns := by
  have hb : takeB t (SC t e ns) w = true := by unfold takeB; rw [(hk ns).2.1]; simp [h0]
  exact ⟨hb, by unfold takeS; rw [if_pos hb, (hk ns).2.2]⟩
theorem par_assoc (s B : Bs) : [40] ++ s ++ [41] ++ B = [40] ++ (s ++ ([41] ++ B)) := by simp
theorem par_lenE (s : Bs) : ([40] ++ s ++ [41]).length = s.length + 2 := by simp
theorem prF_par {t : Bs} {qu : PS → PR} {s s1 : PS} {x : Int} (h : tokS t s = [40]) (hq : qu (scanS t s) = some (true, x, s1)) : prF t qu s = some (takeB t s1 [41], x, takeS t s1 [41]) := by
  unfold prF
  rw [h, if_neg (by simp), if_pos rfl, hq]
theorem p3_par {t : Bs} {q : List Nd} {i : Nat} {s : Bs} (h : PL t q i 0 s) : P3 t q i ([40] ++ s ++ [41]) := by
  intro e B hd hB f hf
  rw [par_assoc] at hd
  rw [par_lenE] at hf ⊢
  obtain ⟨f, rfl⟩ : ∃ f', f = f' + 2 := ⟨f - 2, by omega⟩
  have k1 : Tk t e [40] := tk_one hd rfl rfl rfl
  have hd2 := drop_more hd
  obtain ⟨h1, k2⟩ := pl_par h hd2 (f := f) (by omega)
  rw [pF_thr, (k1 _).2.1, if_neg (by simp), pF_fou]
  rw [prF_par (k1 _).2.1 (by rw [(k1 _).2.2]; exact h1)]
  have h3 := take_ok k2 (by simp) (q.take (i + 1))
  show some (takeB t _ [41], _, takeS t _ [41]) = _
  rw [h3.1, h3.2]
  show some (true, _, SC t (e + 1 + s.length + 1) _) = _
  rw [show e + 1 + s.length + 1 = e + (s.length + 2) by omega]
theorem dg_of (d : Nat) (h : d < 10) : (UInt8.ofNat (48 + d)).toNat = 48 + d := by
  rw [UInt8.toNat_ofNat']; omega
theorem dg_in {d : Nat} (h : d < 10) : dgB (UInt8.ofNat (48 + d)) = true := by
  unfold dgB inB; rw [dg_of d h]; simp; omega
theorem dec_all (u : Nat) : (Lib.decDigits u).all dgB = true ∧ Lib.decDigits u ≠ [] := by
  induction u using Nat.strongRecOn with
  | ind u ih =>
    rw [Lib.decDigits]
    split
    · rename_i h
      exact ⟨by rw [List.all_cons, dg_in h]; rfl, by simp⟩
    · have := ih (u / 10) (by omega)
      refine ⟨?_, by simp⟩
      rw [List.all_append, this.1, Bool.true_and, List.all_cons, dg_in (Nat.mod_lt u (by omega : 10 > 0))]; rfl
theorem pu_app : ∀ (l : Bs) (acc u : Nat) (c : UInt8), Lib.parseUint10 acc l = .ok u → 48 ≤ c.toNat → c.toNat ≤ 57 → u < 100000000000 → Lib.parseUint10 acc (l ++ [c]) = .ok (u * 10 + (c.toNat - 48))
  | [], acc, u, c, h, h1, h2, h3 => by
    simp only [Lib.parseUint10] at h
    injection h with h
    subst h
    show Lib.parseUint10 acc [c] = _
    unfold Lib.parseUint10
    rw [if_pos ⟨h1, h2⟩, if_neg (by omega), if_neg (by omega)]
    rfl
  | d :: l, acc, u, c, h, h1, h2, h3 => by
    show Lib.parseUint10 acc (d :: (l ++ [c])) = _
    unfold Lib.parseUint10 at h ⊢
    split at h
    · rename_i e1
      rw [if_pos e1]
      split at h
      · cases h
      · rename_i e2
        rw [if_neg e2]
        split at h
        · cases h
        · rename_i e3
          rw [if_neg e3]
          exact pu_app l _ u c h h1 h2 h3
    · cases h
theorem pu_dec (u : Nat) (h : u < 100000000000) : Lib.parseUint10 0 (Lib.decDigits u) = .ok u := by
  induction u using Nat.strongRecOn with
  | ind u ih =>
    rw [Lib.decDigits]
    split
    · rename_i h1
      unfold Lib.parseUint10
      rw [dg_of u h1, if_pos ⟨by omega, by omega⟩, if_neg (by omega), if_neg (by omega)]
      unfold Lib.parseUint10
      rw [show 0 * 10 + (48 + u - 48) = u by omega]
    · have hm : u % 10 < 10 := Nat.mod_lt u (by omega)
      rw [pu_app _ _ _ _ (ih (u / 10) (by omega) (by omega)) (by rw [dg_of _ hm]; omega) (by rw [dg_of _ hm]; omega) (by omega), dg_of _ hm]
      congr 1
      omega
theorem itoa_pos {n : Int} (h : 0 ≤ n) : Lib.itoa n = Lib.decDigits n.toNat := by unfold Lib.itoa; rw [if_neg (by omega)]
theorem num_itoa {n : Int} (h0 : 0 ≤ n) (h : n ≤ 100000) : numV (Lib.itoa n) = some n := by
  have hl := itoa_len h0 h
  obtain ⟨ha, hne⟩ := dec_all n.toNat
  have hp := pu_dec n.toNat (by omega)
  have hi := itoa_pos h0
  rw [← hi] at ha hne hp
  generalize hw : Lib.itoa n = w at *
  cases w with
  | nil => exact absurd rfl hne
  | cons c r =>
    have hc : dgB c = true := by simp only [List.all_cons, Bool.and_eq_true] at ha; exact ha.1
    unfold dgB inB at hc
    simp only [Bool.and_eq_true, decide_eq_true_eq] at hc
    have hA : Lib.atoiAll (c :: r) = .ok n := by
      unfold Lib.atoiAll
      dsimp only
      rw [if_neg (by omega)]
      unfold Lib.parseMag
      rw [if_neg (by simp), hp]
      dsimp only
      rw [if_neg (by omega), if_neg (by omega), if_neg (by omega)]
      congr 1; omega
    unfold numV
    rw [hA]
    dsimp only
    rw [if_pos ⟨by omega, by show c.toNat ≥ 48; omega, by show c.toNat ≤ 57; omega, hw⟩]
theorem numF_at {t : Bs} {e : Nat} {n k : Int} {B : Bs} (h0 : 0 ≤ n) (h : n ≤ mostN k) (hd : t.drop e = Lib.itoa n ++ B) (hB : hdB dgB B = false) (ns : List Nd) (f : Int → PS → PR) :
    numF t (SC t e ns) k f = f n (SC t (e + (Lib.itoa n).length) ns) := by
  have hm := mostN_le k
  have ha := dec_all n.toNat
  rw [← itoa_pos h0] at ha
  have hk := tk_num hd ha.1 ha.2 hB
  have hv := num_itoa h0 (by omega)
  have h1 : numB t (SC t e ns) k = true := by unfold numB; rw [(hk ns).2.1, hv]; exact decide_eq_true h
  have h2 : numX t (SC t e ns) k = n := by unfold numX; rw [(hk ns).2.1, hv]; exact if_pos h
  have h3 : numS t (SC t e ns) k = SC t (e + (Lib.itoa n).length) ns := by unfold numS; rw [(hk ns).2.1, hv]; dsimp only; rw [if_pos h, (hk ns).2.2]
  unfold numF
  rw [if_pos h1, h2, h3]
theorem takeF_at {t : Bs} {e : Nat} {w : Bs} (hk : Tk t e w) (h0 : w ≠ []) (ns : List Nd) (k : PS → PR) : takeF t (SC t e ns) w k = k (SC t (e + w.length) ns) := by
  unfold takeF; rw [if_pos (take_ok hk h0 ns).1, (hk ns).2.2]
theorem put_at {q : List Nd} {i : Nat} {x : Nd} (hx : q[i]? = some x) (t : Bs) (e : Nat) : putN (SC t e (q.take i)) x = some (true, (i : Int), SC t e (q.take (i + 1))) := by
  have hl : (q.take i).length = i := by rw [List.length_take]; have := (List.getElem?_eq_some_iff.1 hx).1; omega
  unfold putN
  show some (true, ((q.take i).length : Int), (⟨_, _, q.take i ++ [x], 0⟩ : PS)) = _
  rw [hl, List.take_add_one, hx]; rfl
theorem frm_leaf {q : List Nd} {i : Nat} (h : szI q i = 1) : frm q i = q.take i := by unfold frm; rw [h]; rfl
theorem frm_one {q : List Nd} {i : Nat} (h0 : 1 ≤ i) (h : szI q i = 1 + szI q (i - 1)) : frm q i = frm q (i - 1) ∧ i - 1 + 1 = i := by
  unfold frm; rw [h]; exact ⟨by congr 1; omega, by omega⟩
def wk (k : Int) : Bool := decide (k = 1) || decide (k = 2) || decide (k = 4) || decide (k = 5) || decide (k = 6) || (decide (8 ≤ k) && decide (k ≤ 13))
theorem wk_cases {k : Int} (h : wk k = true) : k = 1 ∨ k = 2 ∨ k = 4 ∨ k = 5 ∨ k = 6 ∨ k = 8 ∨ k = 9 ∨ k = 10 ∨ k = 11 ∨ k = 12 ∨ k = 13 := by
  unfold wk at h
  simp only [Bool.or_eq_true, Bool.and_eq_true, decide_eq_true_eq] at h
  omega
theorem word_ok {k : Int} (h : wk k = true) : (wordN k).all lwB = true ∧ wordN k ≠ [] ∧ (kindN (wordN k) : Int) = k ∧ wordN k ≠ [35] ∧ wordN k ≠ [40] ∧ wordN k ≠ [33] := by
  rcases wk_cases h with rfl | rfl | rfl | rfl | rfl | rfl | rfl | rfl | rfl | rfl | rfl <;> decide
/-- What begins with a word. -/
theorem p3_word {t : Bs} {e : Nat} {B : Bs} {k : Int} (hk : wk k = true) (hd : t.drop e = wordN k ++ B) (hB : hdB lwB B = false) (ns : List Nd) (f : Nat) :
    pF t (f + 2) 3 (SC t e ns) = if kindN (wordN k) = 1 ∨ kindN (wordN k) = 2 ∨ kindN (wordN k) = 6 then putN (SC t (e + (wordN k).length) ns) ⟨k, 0, 0, 0⟩
      else takeF t (SC t (e + (wordN k).length) ns) [40] fun s1 => if ar k = 0 then numF t s1 k fun n s2 => takeF t s2 [41] fun s3 => putN s3 ⟨k, n, 0, 0⟩ else bindF (pF t f 0 s1) fun x s2 => takeF t s2 [41] fun s3 => putN s3 ⟨k, 0, x, 0⟩ := by
  obtain ⟨w1, w2, w3, w4, w5, w6⟩ := word_ok hk
  have k1 := tk_word hd w1 w2 hB
  rw [pF_thr, (k1 _).2.1, if_neg w6, pF_fou]
  unfold prF
  rw [(k1 _).2.1, (k1 _).2.2, if_neg w4, if_neg w5, w3, if_neg (by rcases wk_cases hk with rfl | rfl | rfl | rfl | rfl | rfl | rfl | rfl | rfl | rfl | rfl <;> decide)]
theorem nd_ext {x : Nd} {a b c d : Int} (h1 : x.kd = a) (h2 : x.nm = b) (h3 : x.lf = c) (h4 : x.rt = d) : x = ⟨a, b, c, d⟩ := by
  obtain ⟨_, _, _, _⟩ := x; simp only at h1 h2 h3 h4; subst h1 h2 h3 h4; rfl
theorem bin_frm {q : List Nd} (h : okQ q) {i : Nat} (hi : i < q.length) (h1 : szI q (i - 1) + 1 ≤ i) (h2 : szI q i = 1 + szI q (i - 1) + szI q (i - 1 - szI q (i - 1))) :
    frm q i = frm q (i - 1 - szI q (i - 1)) ∧ frm q (i - 1) = q.take (i - 1 - szI q (i - 1) + 1) := by
  have := szI_le h (i := i - 1) (by omega)
  have := szI_le h (i := i - 1 - szI q (i - 1)) (by omega)
  have := szI_le h hi
  unfold frm
  exact ⟨by congr 1; omega, by congr 1; omega⟩
def RT (t : Bs) (q : List Nd) (F : Nat) : Prop := ∀ i l w, l ≤ 2 → shQ q F i l = some w → i < q.length → (l = 2 → P3 t q i w) ∧ (l < 2 → PL t q i l w)
theorem sg_is {k : Int} (h : 14 ≤ k ∧ k ≤ 16) : ∃ c, signN k = [32, c, 32] ∧ inB 32 32 c = false ∧ lwB c = false ∧ dgB c = false ∧ opK [c] (lvN k) = k ∧ (∀ j, lvN k < j → opK [c] j = 0) := by
  have : k = 14 ∨ k = 15 ∨ k = 16 := by omega
  rcases this with rfl | rfl | rfl
  · exact ⟨124, rfl, rfl, rfl, rfl, rfl, fun j hj => by have hj : 0 < j := hj; unfold opK; rw [if_neg (by omega), if_neg (by simp), if_neg (by simp)]⟩
  · exact ⟨38, rfl, rfl, rfl, rfl, rfl, fun j hj => by have hj : 1 < j := hj; unfold opK; rw [if_neg (by simp), if_neg (by omega), if_neg (by simp)]⟩
  · exact ⟨45, rfl, rfl, rfl, rfl, rfl, fun j hj => by have hj : 1 < j := hj; unfold opK; rw [if_neg (by simp), if_neg (by simp), if_neg (by omega)]⟩
theorem body_two {t : Bs} {q : List Nd} (hq : okQ q) {F : Nat} (ih : RT t q F) {i : Nat} {x : Nd} (hi : i < q.length) (hx : q[i]? = some x) (h2 : ar x.kd = 2) {s : Bs} (hs : shB (shQ q F) x = some s) : PL t q i (lvN x.kd) s := by
  obtain ⟨o1, o2, o3, o4, _, _, o7⟩ := ok_node hq hi (getD_nd hx)
  obtain ⟨g1, g2, g3, g4⟩ := o7 h2
  have hkd : 14 ≤ x.kd ∧ x.kd ≤ 16 := by rcases ar_or x.kd with ⟨_, h⟩ | ⟨_, _, h⟩ | ⟨h, _⟩ <;> omega
  have hnm : x.nm = 0 := by
    have : mostN x.kd = 0 := by unfold mostN; rw [if_neg (by omega), if_neg (by omega), if_neg (by omega)]
    omega
  unfold shB at hs
  rw [if_neg (by omega), if_neg (by omega), if_neg (by omega), if_neg (by omega), if_neg (by omega)] at hs
  obtain ⟨a, ha, hs⟩ := Option.bind_eq_some_iff.1 hs
  obtain ⟨b, hb, rfl⟩ := Option.map_eq_some_iff.1 hs
  obtain ⟨c, hc, c1, c2, c3, c4, c5⟩ := sg_is hkd
  obtain ⟨f1, f2⟩ := bin_frm hq hi g1 g4
  have hL := szI_le hq (i := i - 1) (by omega)
  rw [g2, Int.toNat_natCast] at ha
  rw [g3, Int.toNat_natCast] at hb
  have hv : lvN x.kd < 2 := by unfold lvN; split <;> (try split) <;> omega
  have hA := (ih _ _ _ (by omega) ha (by omega)).2 hv
  have hB := ih _ _ _ (by omega) hb (by omega)
  have hxe : x = ⟨x.kd, 0, ((i - 1 - szI q (i - 1) : Nat) : Int), ((i - 1 : Nat) : Int)⟩ := nd_ext rfl hnm g2 g3
  generalize hlf : i - 1 - szI q (i - 1) = lf at *
  generalize hvv : lvN x.kd = v at *
  intro e B hd hBk ho f hf
  rw [hc] at hd ho hf ⊢
  have hd1 : t.drop e = a ++ ([32] ++ ([c] ++ ([32] ++ (b ++ B)))) := by rw [hd]; simp
  have hd2 := drop_more hd1
  have hd3 : t.drop (e + a.length + 1) = [c] ++ ([32] ++ (b ++ B)) := drop_more hd2
  have hd4 : t.drop (e + a.length + 1 + 1) = [32] ++ (b ++ B) := drop_more hd3
  have hd5 : t.drop (e + a.length + 1 + 1 + 1) = b ++ B := drop_more hd4
  have k1 := tk_one hd3 c1 c2 c3
  have hlen : (a ++ [32, c, 32] ++ b).length = a.length + 3 + b.length := by simp; omega
  rw [hlen] at ho hf ⊢
  have hsk : ∀ ns, SC t (e + a.length) ns = SC t (e + a.length + 1) ns := sc_skip hd2
  obtain ⟨g, hg, hrun⟩ := hA e _ hd1 rfl (fun k h1 h2 => by
    unfold opT; rw [hsk, (k1 _).2.1]; exact c5 k h1) f (by omega)
  have hta := w_le hd1
  obtain ⟨g, rfl⟩ : ∃ g', g = g' + 1 := ⟨g - 1, by omega⟩
  refine ⟨g, by omega, ?_⟩
  have hok : opK (tokS t (SC t (e + a.length + 1) (q.take (lf + 1)))) v = x.kd := by rw [(k1 _).2.1]; exact c4
  have hsub : pF t f (v + 1) (SC t (e + a.length + 1 + 1 + 1) (frm q (i - 1))) = some (true, ((i - 1 : Nat) : Int), SC t (e + (a.length + 3 + b.length)) (q.take i)) := by
    have e1 : e + a.length + 1 + 1 + 1 + b.length = e + (a.length + 3 + b.length) := by omega
    have e2 : i - 1 + 1 = i := by omega
    by_cases h1 : v = 1
    · subst h1
      obtain ⟨f, rfl⟩ : ∃ f', f = f' + 1 := ⟨f - 1, by omega⟩
      rw [pF_two, hB.1 rfl _ _ hd5 hBk f (by omega), e1, e2]
    · obtain rfl : v = 0 := by omega
      obtain ⟨f, rfl⟩ : ∃ f', f = f' + 1 := ⟨f - 1, by omega⟩
      have hP := hB.2 (by omega)
      rw [show (0 : Nat) + 1 = 1 from rfl] at hP ⊢
      rw [pl_stop hP hd5 hBk (fun k h1 h2 => by rw [e1]; exact ho k (by omega) h2) (by omega) (by omega), e1, e2]
  rw [f1, hrun, hsk, lp_go _ _ _ _ _ _ (by rw [hok]; omega), hok, (k1 _).2.2]
  show bindF (pF t f (v + 1) (SC t (e + a.length + 1 + 1) _)) _ = _
  rw [sc_skip hd4, ← f2, hsub]
  have hl : (q.take i).length = i := by rw [List.length_take]; omega
  show lpF t _ v g ((q.take i).length : Int) (⟨_, _, q.take i ++ [⟨x.kd, 0, (lf : Int), ((i - 1 : Nat) : Int)⟩], 0⟩ : PS) = _
  rw [hl, ← hxe, List.take_add_one, hx]; rfl
theorem body_one {t : Bs} {q : List Nd} (hq : okQ q) {F : Nat} (ih : RT t q F) {i : Nat} {x : Nd} (hi : i < q.length) (hx : q[i]? = some x) (h2 : ar x.kd ≠ 2) {s : Bs} (hs : shB (shQ q F) x = some s) : P3 t q i s := by
  obtain ⟨o1, o2, o3, o4, o5, o6, _⟩ := ok_node hq hi (getD_nd hx)
  unfold shB at hs
  by_cases c1 : x.kd = 3
  · rw [if_pos c1] at hs
    obtain rfl := Option.some.inj hs
    have ha : ar x.kd = 0 := by rw [c1]; rfl
    obtain ⟨p1, p2, p3⟩ := o5 ha
    have hxe : x = ⟨3, x.nm, 0, 0⟩ := nd_ext c1 rfl p1 p2
    intro e B hd hB f hf
    rw [List.append_assoc] at hd
    have k1 := tk_one hd rfl rfl rfl
    have hd2 := drop_more hd
    rw [List.length_append] at hf ⊢
    have hl1 : ([35] : Bs).length = 1 := rfl
    rw [hl1] at hf hd2 ⊢
    obtain ⟨f, rfl⟩ : ∃ f', f = f' + 2 := ⟨f - 2, by omega⟩
    rw [pF_thr, (k1 _).2.1, if_neg (by simp), pF_fou]
    unfold prF
    rw [(k1 _).2.1, (k1 _).2.2, if_pos rfl, frm_leaf p3, hl1, numF_at o3 (by rw [← c1]; exact o4) hd2 (brk_dg hB), ← hxe, put_at hx, show e + 1 + (Lib.itoa x.nm).length = e + (1 + (Lib.itoa x.nm).length) by omega]
  rw [if_neg c1] at hs
  by_cases c2 : x.kd = 4 ∨ x.kd = 5
  · rw [if_pos c2] at hs
    obtain rfl := Option.some.inj hs
    have ha : ar x.kd = 0 := by rcases c2 with h | h <;> rw [h] <;> rfl
    have hk : wk x.kd = true := by rcases c2 with h | h <;> rw [h] <;> rfl
    obtain ⟨p1, p2, p3⟩ := o5 ha
    have hxe : x = ⟨x.kd, x.nm, 0, 0⟩ := nd_ext rfl rfl p1 p2
    intro e B hd hB f hf
    have hlen : (wordN x.kd ++ [40] ++ Lib.itoa x.nm ++ [41]).length = (wordN x.kd).length + 1 + (Lib.itoa x.nm).length + 1 := by simp; omega
    rw [hlen] at hf ⊢
    have hd1 : t.drop e = wordN x.kd ++ ([40] ++ (Lib.itoa x.nm ++ ([41] ++ B))) := by rw [hd]; simp
    have hd2 := drop_more hd1
    have hd3 : t.drop (e + (wordN x.kd).length + 1) = _ := drop_more hd2
    have hd4 := drop_more hd3
    obtain ⟨f, rfl⟩ : ∃ f', f = f' + 2 := ⟨f - 2, by omega⟩
    rw [p3_word hk hd1 rfl, if_neg (by rcases c2 with h | h <;> rw [h] <;> decide), takeF_at (tk_one hd2 rfl rfl rfl) (by simp)]
    rw [if_pos ha, frm_leaf p3]
    show numF t (SC t (e + (wordN x.kd).length + 1) _) _ _ = _
    rw [numF_at o3 o4 hd3 rfl, takeF_at (tk_one hd4 rfl rfl rfl) (by simp), ← hxe, put_at hx]
    show some (true, _, SC t (e + (wordN x.kd).length + 1 + (Lib.itoa x.nm).length + 1) _) = _
    rw [show e + (wordN x.kd).length + 1 + (Lib.itoa x.nm).length + 1 = e + ((wordN x.kd).length + 1 + (Lib.itoa x.nm).length + 1) by omega]
  rw [if_neg c2] at hs
  have hnm : x.nm = 0 := by
    have : mostN x.kd = 0 := by unfold mostN; rw [if_neg c1, if_neg (by omega), if_neg (by omega)]
    omega
  by_cases c3 : x.kd = 7
  · have ha : ar x.kd = 1 := by rw [c3]; rfl
    obtain ⟨g1, g2, g3, g4⟩ := o6 ha
    obtain ⟨f1, f2⟩ := frm_one g1 g4
    rw [if_pos c3, g2, Int.toNat_natCast] at hs
    obtain ⟨a, hA, rfl⟩ := Option.map_eq_some_iff.1 hs
    have hP := (ih _ _ _ (by omega) hA (by omega)).1 rfl
    have hxe : x = ⟨7, 0, ((i - 1 : Nat) : Int), 0⟩ := nd_ext c3 hnm g2 g3
    intro e B hd hB f hf
    rw [List.append_assoc] at hd
    have k1 := tk_one hd rfl rfl rfl
    have hd2 := drop_more hd
    rw [List.length_append] at hf ⊢
    have hl1 : ([33] : Bs).length = 1 := rfl
    rw [hl1] at hf hd2 ⊢
    obtain ⟨f, rfl⟩ : ∃ f', f = f' + 1 := ⟨f - 1, by omega⟩
    rw [pF_thr, (k1 _).2.1, if_pos rfl, (k1 _).2.2, hl1, f1, hP _ _ hd2 hB f (by omega), bindF_t, f2, ← hxe, put_at hx, show e + 1 + a.length = e + (1 + a.length) by omega]
  rw [if_neg c3] at hs
  by_cases c4 : ar x.kd = 1
  · obtain ⟨g1, g2, g3, g4⟩ := o6 c4
    obtain ⟨f1, f2⟩ := frm_one g1 g4
    rw [if_pos c4, g2, Int.toNat_natCast] at hs
    obtain ⟨a, hA, rfl⟩ := Option.map_eq_some_iff.1 hs
    have hP := (ih _ _ _ (by omega) hA (by omega)).2 (by omega)
    have hkr : 8 ≤ x.kd ∧ x.kd ≤ 13 := by rcases ar_or x.kd with ⟨_, h⟩ | ⟨_, _, h⟩ | ⟨_, h⟩ <;> omega
    have hk : wk x.kd = true := by unfold wk; simp only [Bool.or_eq_true, Bool.and_eq_true, decide_eq_true_eq]; omega
    have hxe : x = ⟨x.kd, 0, ((i - 1 : Nat) : Int), 0⟩ := nd_ext rfl hnm g2 g3
    intro e B hd hB f hf
    have hlen : (wordN x.kd ++ [40] ++ a ++ [41]).length = (wordN x.kd).length + 1 + a.length + 1 := by simp; omega
    rw [hlen] at hf ⊢
    have hd1 : t.drop e = wordN x.kd ++ ([40] ++ (a ++ ([41] ++ B))) := by rw [hd]; simp
    have hd2 := drop_more hd1
    have hd3 : t.drop (e + (wordN x.kd).length + 1) = _ := drop_more hd2
    have hkn : ¬(kindN (wordN x.kd) = 1 ∨ kindN (wordN x.kd) = 2 ∨ kindN (wordN x.kd) = 6) := by have := (word_ok hk).2.2.1; omega
    obtain ⟨f, rfl⟩ : ∃ f', f = f' + 2 := ⟨f - 2, by omega⟩
    obtain ⟨h1, k2⟩ := pl_par hP hd3 (f := f) (by omega)
    rw [p3_word hk hd1 rfl, if_neg hkn, takeF_at (tk_one hd2 rfl rfl rfl) (by simp)]
    rw [if_neg (by omega), f1]
    show bindF (pF t f 0 (SC t (e + (wordN x.kd).length + 1) _)) _ = _
    rw [h1, bindF_t, takeF_at k2 (by simp), f2, ← hxe, put_at hx]
    show some (true, _, SC t (e + (wordN x.kd).length + 1 + a.length + 1) _) = _
    rw [show e + (wordN x.kd).length + 1 + a.length + 1 = e + ((wordN x.kd).length + 1 + a.length + 1) by omega]
  rw [if_neg c4] at hs
  have ha : ar x.kd = 0 := by rcases ar_or x.kd with ⟨_, h⟩ | ⟨_, _, h⟩ | ⟨_, h⟩ <;> omega
  rw [if_pos ha] at hs
  obtain rfl := Option.some.inj hs
  obtain ⟨p1, p2, p3⟩ := o5 ha
  have hkr : x.kd = 1 ∨ x.kd = 2 ∨ x.kd = 6 := by rcases ar_or x.kd with ⟨_, h⟩ | ⟨_, _, h⟩ | ⟨_, h⟩ <;> omega
  have hk : wk x.kd = true := by rcases hkr with h | h | h <;> rw [h] <;> rfl
  have hxe : x = ⟨x.kd, 0, 0, 0⟩ := nd_ext rfl hnm p1 p2
  intro e B hd hB f hf
  have hw := (word_ok hk).2.1
  have := List.length_pos_iff.2 hw
  obtain ⟨f, rfl⟩ : ∃ f', f = f' + 2 := ⟨f - 2, by omega⟩
  rw [p3_word hk hd (brk_lw hB), if_pos (by have := (word_ok hk).2.2.1; omega), frm_leaf p3, ← hxe, put_at hx]
theorem rt_all {t : Bs} {q : List Nd} (hq : okQ q) : ∀ F, RT t q F
  | 0 => fun _ _ _ _ h => by cases h
  | F + 1 => fun i l w hl h hi => by
    have ih := rt_all (t := t) hq F
    obtain ⟨x, s, hx, hs, _, rfl⟩ := shQ_step h
    by_cases c : ar x.kd = 2
    · have hb := body_two hq ih hi hx c hs
      have hv : lvN x.kd < 2 := by
        have : 14 ≤ x.kd ∧ x.kd ≤ 16 := by
          obtain ⟨o1, o2, _⟩ := ok_node hq hi (getD_nd hx)
          rcases ar_or x.kd with ⟨_, h⟩ | ⟨_, _, h⟩ | ⟨h, _⟩ <;> omega
        unfold lvN; split <;> (try split) <;> omega
      generalize lvN x.kd = v at *
      have h0 : PL t q i 0 s := by
        by_cases hv0 : v = 0
        · rw [← hv0]; exact hb
        · obtain rfl : v = 1 := by omega
          exact pl_zero hb
      by_cases hvl : v < l
      · rw [if_pos hvl]
        exact ⟨fun _ => p3_par h0, fun h => by obtain rfl : l = 1 := by omega
                                               exact pl_one (p3_par h0)⟩
      · rw [if_neg hvl]
        refine ⟨fun h => by omega, fun h => ?_⟩
        by_cases hl0 : l = 0
        · subst hl0; exact h0
        · obtain rfl : l = v := by omega
          exact hb
    · have hb := body_one hq ih hi hx c hs
      have hv : lvN x.kd = 2 := by
        have : x.kd < 14 := by
          rcases ar_or x.kd with ⟨_, h⟩ | ⟨_, _, h⟩ | ⟨h, h2⟩
          · omega
          · omega
          · exact absurd h2 c
        unfold lvN; rw [if_neg (by omega), if_neg (by omega)]
      rw [hv, if_neg (by omega)]
      refine ⟨fun _ => hb, fun h => ?_⟩
      by_cases hl0 : l = 0
      · subst hl0; exact pl_zero (pl_one hb)
      · obtain rfl : l = 1 := by omega
        exact pl_one hb
theorem root_sz {q : List Nd} (h : valQ q = (0, 0)) : szI q (q.length - 1) = q.length := by
  obtain ⟨⟨h1, h2, h3⟩, _⟩ := ok_of_val h
  have hr := refQ_end h1 h2 h3
  rw [refQ_is, h] at hr
  split at hr
  · cases hr
  · rename_i hh
    rw [← szl_at (q := q) (n := q.length) (i := q.length - 1) (by omega)]
    exact Decidable.not_not.1 hh
/-- Parsing the text of a query yields the query. -/
theorem pars_fmt {q : List Nd} (h : (fmtQ q).1 = 0) : parsQ (fmtQ q).2.2 = (0, 0, q) := by
  unfold fmtQ at h ⊢
  split at h
  · rename_i hv
    exact absurd h (val_code hv)
  rename_i hv
  rw [if_neg hv]
  split at h
  · cases h
  rename_i hl
  rw [if_neg hl]
  dsimp only
  have hv : valQ q = (0, 0) := Decidable.not_not.1 hv
  have hq := (ok_of_val hv).1
  have h1 := hq.1
  obtain ⟨w, hw, _⟩ := shQ_tot hq 41 (q.length - 1) 0 (by have := hq.2.1; omega) (by omega)
  rw [hw] at hl ⊢
  rw [getD_bs] at hl ⊢
  have hd : w.drop 0 = w ++ [] := by simp
  have hP := (rt_all (t := w) hq 41 _ _ _ (by omega) hw (by omega)).2 (by omega)
  have hsc : scnP w w.length = w.length := run_end (Nat.le_refl _)
  have htk : ∀ k, opT w (0 + w.length) k = 0 := fun k => by
    unfold opT tokS tokN SC
    dsimp only
    rw [Nat.zero_add, hsc, List.drop_eq_nil_of_le (Nat.le_refl _), List.take_nil]; exact opK_nil k
  have hr := pl_stop hP hd rfl (fun k _ _ => htk k) (by omega) (f := 5 * w.length + 9) (by omega)
  have hf : frm q (q.length - 1) = [] := by unfold frm; rw [root_sz hv, show q.length - 1 + 1 - q.length = 0 by omega]; rfl
  rw [hf] at hr
  unfold parsQ
  rw [if_neg hl]
  show (match pF w (5 * w.length + 9 + 1) 0 (SC w 0 []) with | none => (0, 0, []) | some (false, _, s) => (s.c, (s.p : Int), []) | some (true, _, s) => if s.p < w.length then (failC s.c 1, (s.p : Int), []) else if 40 < s.ns.length then (10, -1, []) else (0, 0, s.ns)) = _
  rw [hr]
  show (if scnP w (0 + w.length) < w.length then _ else _) = _
  rw [Nat.zero_add, hsc, if_neg (Nat.lt_irrefl _)]
  show (if 40 < (q.take (q.length - 1 + 1)).length then _ else (0, 0, q.take (q.length - 1 + 1))) = _
  rw [show q.length - 1 + 1 = q.length by omega, List.take_of_length_le (Nat.le_refl _), if_neg (by have := hq.2.1; omega)]

def lawRG : List AV → Option (Prop × AV)
  | [.agg [.d (.sl ys)]] => some (ys = rows eN (dN ys) ∧ (dN ys).length ≤ 9223372036854775807, .d (.bool true))
  | _ => none
theorem rf_cases (q : List Nd) : (∃ w : Bs, fmtQ q = (0, 0, w) ∧ parsQ w = (0, 0, q) ∧ w.length ≤ 300 ∧ q.length ≤ 40) ∨ ∃ c i : Int, c ≠ 0 ∧ fmtQ q = (c, i, []) := by
  by_cases h : (fmtQ q).1 = 0
  · have hp := pars_fmt h
    refine .inl ⟨(fmtQ q).2.2, ?_, hp, ?_, ?_⟩
    · unfold fmtQ at h ⊢
      split at h
      · rename_i hv; exact absurd h (val_code hv)
      · rename_i hv
        rw [if_neg hv]
        split at h
        · cases h
        · rename_i hl; rw [if_neg hl]
    · unfold fmtQ at h ⊢
      split at h
      · rename_i hv; exact absurd h (val_code hv)
      · rename_i hv
        rw [if_neg hv]
        split at h
        · cases h
        · rename_i hl; rw [if_neg hl]; exact Nat.le_of_not_lt hl
    · unfold fmtQ at h
      split at h
      · rename_i hv; exact absurd h (val_code hv)
      · rename_i hv
        exact (ok_of_val (Decidable.not_not.1 hv)).1.2.1
  · refine .inr ⟨(fmtQ q).1, (fmtQ q).2.1, h, ?_⟩
    unfold fmtQ at h ⊢
    split
    · rfl
    · rename_i hv
      rw [if_neg hv] at h
      split
      · rfl
      · rename_i hl; rw [if_neg hl] at h; exact absurd rfl h

theorem lawR_meets : Meets Tryd.prog 10 (Spec.pure lawRG) := by
 refine meets_fun (E_qeq.at_ 32) Tryd.func10 rfl rfl rfl ?_
 intro args p r hg hp
 unfold lawRG at hg
 split at hg
 ·rename_i ys
  simp only [Option.some.injEq, Prod.mk.injEq] at hg
  obtain ⟨rfl, rfl⟩ := hg
  obtain ⟨he2, hl2⟩ := hp
  generalize dN ys = q at *
  subst he2
  have hT : (E_qeq).X = T := rfl
  have hx0 := And.intro @rect_eN (And.intro @dN_rows (And.intro @dec_t (And.intro @dec_f @Tryd.results10)))
  have hx := hx0
  refine ⟨by rfl, ?_⟩
  intro F W0 hnp hmk
  refine vc_seq_k fun N1 h1 => ?_
  refine u_reg ?_
  try refine lg_mk ?_
  refine u_bx ?_
  refine u_mv ?_
  refine lg_nil ?_
  refine h1 _ ?_; clear h1; try clear N1
  refine vc_seq_k fun N2 h2 => ?_
  refine vc_seq_k fun N3 h3 => ?_
  refine u_reg ?_
  try refine lg_mk ?_
  have hc := call_rule (E := (E_qeq.at_ 32)) (f := 22) (sp := Spec.pure exG) rfl
  have hs := @exG.eq_1
  refine u_cp ?_
  refine u_un ?_
  refine lg_nil ?_
  refine h3 _ ?_; clear h3; try clear N3
  refine u_cond (fun hb4 => ?_) (fun hb4 => ?_)
  ·first | omega | exact absurd trivial hb4 | contradiction | (simp_all; done)
  ·refine vc_skip ?_
   try simp only [k_rules]
   refine h2 _ ?_; clear h2; try clear N2
   refine vc_seq_k fun N5 h5 => ?_
   rcases rf_cases q with ⟨w, hev, hpw, hlw, hl40⟩ | ⟨c, i, hc0, hev⟩
   ·have c1 := True.intro
    have hx := And.intro @hev hx0
    refine u_reg ?_
    try refine lg_mk ?_
    refine u_ld ?_
    have hc := call_rule (E := (E_qeq.at_ 32)) (f := 31) (sp := Spec.pure fmtG) rfl
    have hs := @fmtG.eq_1
    refine u_cp ?_
    refine u_mv ?_
    refine u_ex ?_
    refine u_ex ?_
    refine u_al ?_
    refine u_mv ?_
    refine u_st ?_
    refine lg_nil ?_
    have hx := hx0
    refine h5 _ ?_; clear h5; try clear N5
    refine vc_seq_k fun N6 h6 => ?_
    refine vc_seq_k fun N7 h7 => ?_
    have hx := And.intro @c1 hx0
    refine u_reg ?_
    try refine lg_mk ?_
    refine u_pt ?_
    refine u_ld ?_
    refine u_bn ?_
    refine lg_nil ?_
    have hx := hx0
    refine h7 _ ?_; clear h7; try clear N7
    refine u_cond (fun hb8 => ?_) (fun hb8 => ?_)
    ·first | omega | exact absurd trivial hb8 | contradiction | (simp_all; done)
    ·refine vc_skip ?_
     try simp only [k_rules]
     refine h6 _ ?_; clear h6; try clear N6
     refine vc_seq_k fun N9 h9 => ?_
     have hx := And.intro @hpw hx0
     refine u_reg ?_
     try refine lg_mk ?_
     refine u_mv (hq := by (first | ((repeat' apply And.intro) <;> first | rfl | omega) | exact sd_)) ?_
     have hc := call_rule (E := (E_qeq.at_ 32)) (f := 29) (sp := Spec.pure parsG) rfl
     have hs := @parsG.eq_1
     refine u_hp (hq := by (first | ((repeat' apply And.intro) <;> first | rfl | omega) | exact sd_)) ?_
     refine u_mv (hq := by (first | ((repeat' apply And.intro) <;> first | rfl | omega) | exact sd_)) ?_
     refine u_ex (hq := by (first | ((repeat' apply And.intro) <;> first | rfl | omega) | exact sd_)) ?_
     refine u_ex (hq := by (first | ((repeat' apply And.intro) <;> first | rfl | omega) | exact sd_)) ?_
     refine u_al (hq := by (first | ((repeat' apply And.intro) <;> first | rfl | omega) | exact sd_)) ?_
     refine u_al (hq := by (first | ((repeat' apply And.intro) <;> first | rfl | omega) | exact sd_)) ?_
     refine u_st (hq := by (first | ((repeat' apply And.intro) <;> first | rfl | omega) | exact sd_)) ?_
     refine u_st (hq := by (first | ((repeat' apply And.intro) <;> first | rfl | omega) | exact sd_)) ?_
     refine lg_nil ?_
     have hx := hx0
     refine h9 _ ?_; clear h9; try clear N9
     refine vc_seq_k fun N10 h10 => ?_
     refine u_reg ?_
     try refine lg_mk ?_
     refine u_pt (hq := by (first | ((repeat' apply And.intro) <;> first | rfl | omega) | exact sd_)) ?_
     refine u_ld (hq := by (first | ((repeat' apply And.intro) <;> first | rfl | omega) | exact sd_)) ?_
     refine u_bn (hq := by (first | ((repeat' apply And.intro) <;> first | rfl | omega) | exact sd_)) ?_
     refine u_mv (hq := by (first | ((repeat' apply And.intro) <;> first | rfl | omega) | exact sd_)) ?_
     refine s_ld (hq := by (intro hg; (try simp only [b_rules, bif_and, bif_or] at hg); (first | ((repeat' apply And.intro) <;> first | rfl | omega) | exact sd_))) ?_
     refine s_ld (hq := by (intro hg; (try simp only [b_rules, bif_and, bif_or] at hg); (first | ((repeat' apply And.intro) <;> first | rfl | omega) | exact sd_))) ?_
     have hc := call_rule (E := (E_qeq.at_ 32)) (f := 19) (sp := Spec.pure qeqG) rfl
     have hs := @qeqG.eq_1
     refine s_cp (hq := by (intro hg; (try simp only [b_rules, bif_and, bif_or] at hg); (first | ((repeat' apply And.intro) <;> first | rfl | omega) | exact sd_))) ?_
     refine u_pk (hq := by (first | ((repeat' apply And.intro) <;> first | rfl | omega) | exact sd_)) ?_
     refine u_mv (hq := by (first | ((repeat' apply And.intro) <;> first | rfl | omega) | exact sd_)) ?_
     refine lg_nil ?_
     refine h10 _ ?_; clear h10; try clear N10
     refine vc_ret ?_
     try simp only [k_rules]
     refine fin2_ ?_
     (repeat' apply And.intro) <;> (first | (first | rfl | trivial | (simp; done)) | exact cl_)
   ·have hpw := True.intro
    have c1 : (c = 0) = False := eq_false hc0
    have hx := And.intro @hev hx0
    refine u_reg ?_
    try refine lg_mk ?_
    refine u_ld ?_
    have hc := call_rule (E := (E_qeq.at_ 32)) (f := 31) (sp := Spec.pure fmtG) rfl
    have hs := @fmtG.eq_1
    refine u_cp ?_
    refine u_mv ?_
    refine u_ex ?_
    refine u_ex ?_
    refine u_al ?_
    refine u_mv ?_
    refine u_st ?_
    refine lg_nil ?_
    have hx := hx0
    refine h5 _ ?_; clear h5; try clear N5
    refine vc_seq_k fun N11 h11 => ?_
    refine vc_seq_k fun N12 h12 => ?_
    have hx := And.intro @c1 hx0
    refine u_reg ?_
    try refine lg_mk ?_
    refine u_pt ?_
    refine u_ld ?_
    refine u_bn ?_
    refine lg_nil ?_
    have hx := hx0
    refine h12 _ ?_; clear h12; try clear N12
    refine u_cond (fun hb13 => ?_) (fun hb13 => ?_)
    ·refine vc_seq_k fun N14 h14 => ?_
     have hx := And.intro @c1 hx0
     refine u_reg ?_
     try refine lg_mk ?_
     refine u_mv ?_
     refine u_bn ?_
     refine u_mv ?_
     refine lg_nil ?_
     have hx := hx0
     refine h14 _ ?_; clear h14; try clear N14
     refine vc_ret ?_
     try simp only [k_rules]
     refine fin2_ ?_
     (repeat' apply And.intro) <;> (first | (first | rfl | trivial | (simp; done)) | exact cl_)
    ·first | omega | exact absurd trivial hb13 | contradiction | (simp_all; done)
 ·cases hg
end Go.Proofs.YtlbjffdaooadoaaDoor
