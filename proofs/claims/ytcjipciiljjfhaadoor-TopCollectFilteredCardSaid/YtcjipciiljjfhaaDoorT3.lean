/- Walks, printed by wip/gen/walk.py. -/
import Derived.Test.YtcjipciiljjfhaaDoorT2
import Derived.Test.YtcjipciiljjfhaaDoorV5
set_option linter.all false
set_option maxRecDepth 100000
set_option maxHeartbeats 4000000
namespace Go.Proofs.YtcjipciiljjfhaaDoor
open Go Go.Vc Go.RowKit
theorem mod_am (A B C M : Int) : (A % M + B % M * C) % M = (A + B * C) % M := by
  rw [Int.add_emod, Int.emod_emod, Int.mul_emod, Int.emod_emod, ← Int.mul_emod, ← Int.add_emod]
theorem mul_odd {x y o : Int} (h : y % 2 = 1) : ((o + x) % 2305843009213693951 + 2 * x % 2305843009213693951 * (y / 2)) % 2305843009213693951 = (o + x * y) % 2305843009213693951 := by
  rw [mod_am]
  congr 1
  have : y = 2 * (y / 2) + 1 := by omega
  generalize y / 2 = z at *
  subst this
  rw [Int.mul_add, Int.mul_one, ← Int.mul_assoc, Int.mul_comm x 2]; omega
theorem mul_even {x y o : Int} (h : y % 2 = 0) : (o + 2 * x % 2305843009213693951 * (y / 2)) % 2305843009213693951 = (o + x * y) % 2305843009213693951 := by
  have e := mod_am o (2 * x) (y / 2) 2305843009213693951
  have e2 : (o + 2 * x % 2305843009213693951 * (y / 2)) % 2305843009213693951 = (o % 2305843009213693951 + 2 * x % 2305843009213693951 * (y / 2)) % 2305843009213693951 := by
    rw [Int.add_emod (o % 2305843009213693951), Int.emod_emod, ← Int.add_emod]
  rw [e2, e]
  congr 1
  have : y = 2 * (y / 2) := by omega
  generalize y / 2 = z at *
  subst this
  rw [← Int.mul_assoc, Int.mul_comm x 2]
/-- One byte more. -/
def digS (h : Int) (b : UInt8) : Int := (h * 257 + (b.toNat : Int) + 1) % 2305843009213693951
def dig (bs : List UInt8) : Int := bs.foldl digS 1
theorem digS_rng (h : Int) (b : UInt8) : 0 ≤ digS h b ∧ digS h b < 2305843009213693951 := ⟨Int.emod_nonneg _ (by decide), Int.emod_lt_of_pos _ (by decide)⟩
theorem dig_rng (bs : List UInt8) : 0 ≤ dig bs ∧ dig bs < 2305843009213693951 := by
  unfold dig
  suffices ∀ (bs : List UInt8) (h : Int), 0 ≤ h ∧ h < 2305843009213693951 → 0 ≤ bs.foldl digS h ∧ bs.foldl digS h < 2305843009213693951 from this bs 1 (by decide)
  intro bs
  induction bs with
  | nil => exact fun h hh => hh
  | cons b bs ih => exact fun h _ => ih _ (digS_rng h b)
theorem dig_snoc (bs : List UInt8) (i : Nat) (b : UInt8) (h : bs[i]? = some b) : dig (bs.take (i + 1)) = digS (dig (bs.take i)) b := by
  unfold dig; rw [List.take_add_one, h, List.foldl_append]; rfl
theorem dig_next (h : Int) (b : UInt8) : (h * 257 % 2305843009213693951 + ((b.toNat : Int) + 1)) % 2305843009213693951 = digS h b := by
  unfold digS; rw [Int.emod_add_emod, Int.add_assoc]
theorem dig_next2 (h : Int) (b : UInt8) : (h * 257 % 2305843009213693951 + (b.toNat : Int) + 1) % 2305843009213693951 = digS h b := by
  rw [Int.add_assoc]; exact dig_next h b
theorem and_one {a : Int} (h : 0 ≤ a) : bitsR .and .i64 a 1 = a % 2 := by
  obtain ⟨n, rfl⟩ := Int.eq_ofNat_of_zero_le h
  have e : (BitVec.ofInt IntKind.i64.bits (n : Int) &&& BitVec.ofInt IntKind.i64.bits 1).toNat = n % 2 := by
    show (BitVec.ofInt 64 (n : Int) &&& BitVec.ofInt 64 1).toNat = n % 2
    rw [BitVec.toNat_and, BitVec.toNat_ofInt]
    have : (BitVec.ofInt 64 1).toNat = 1 := by decide
    rw [this, Nat.and_one_is_mod]
    have : ((n : Int) % ((2 ^ 64 : Nat) : Int)).toNat = n % 2 ^ 64 := by omega
    rw [this]; omega
  show IntKind.i64.wrap ((BitVec.ofInt IntKind.i64.bits (n : Int) &&& BitVec.ofInt IntKind.i64.bits 1).toNat : Int) = _
  rw [e]
  have h2 : n % 2 < 2 := Nat.mod_lt _ (by decide)
  have h3 : (n : Int) % 2 = ((n % 2 : Nat) : Int) := by omega
  rw [h3]
  generalize n % 2 = m at *
  match m, h2 with
  | 0, _ => decide
  | 1, _ => decide
/-- A number's eight bytes. -/
def wide (n : Int) : List UInt8 := (List.range 8).map fun k => UInt8.ofNat (n / 256 ^ (7 - k) % 256).toNat
theorem wide_len (n : Int) : (wide n).length = 8 := by simp [wide]

theorem shr_one (a : Int) : a.fdiv (2 ^ min 1 IntKind.i64.bits) = a / 2 := by
  have : min 1 IntKind.i64.bits = 1 := by decide
  rw [this, Int.fdiv_eq_ediv_of_nonneg _ (by decide)]; rfl

def mulG : List AV → Option (Prop × AV)
  | [.d (.int .i64 a), .d (.int .i64 b)] => some (0 ≤ a ∧ a < 2305843009213693951 ∧ 0 ≤ b ∧ b ≤ 9223372036854775807, .d (.int .i64 (a * b % 2305843009213693951)))
  | _ => none
def dblG : List AV → Option (Prop × AV)
  | [.d (.int .i64 a)] => some (0 ≤ a ∧ a < 2305843009213693951, .d (.int .i64 (2 * a % 2305843009213693951)))
  | _ => none
def nextG : List AV → Option (Prop × AV)
  | [.agg [.d (.int .i64 a), .d (.int .i64 b)], .d (.int .i64 f)] => some (0 ≤ a ∧ a < 2305843009213693951 ∧ 0 ≤ b ∧ b < 2305843009213693951 ∧ 0 ≤ f ∧ f ≤ 9223372036854775807, .d (.int .i64 ((a * f % 2305843009213693951 + b) % 2305843009213693951)))
  | _ => none
def ofG : List AV → Option (Prop × AV)
  | [.d (.sl xs)] => some (xs = rows eU (dU xs) ∧ (dU xs).length ≤ 4096, .tup [.d (.int .i64 (dig (dU xs))), .agg [.d (.int .i64 0), .d (.int .i64 0)]])
  | _ => none
def digG : List AV → Option (Prop × AV)
  | [.d (.sl xs)] => some (xs = rows eU (dU xs) ∧ (dU xs).length ≤ 1000000000, .d (.int .i64 (dig (dU xs))))
  | _ => none
theorem mul_fin {x y o c : Int} (h : (o + x * y) % 2305843009213693951 = c) (hy : y = 0) (h0 : 0 ≤ o) (h1 : o < 2305843009213693951) : c = o := by
  rw [hy, Int.mul_zero, Int.add_zero, Int.emod_eq_of_lt h0 h1] at h; exact h.symm
theorem tm {a : Int} (h : 0 ≤ a) : a.tmod 2305843009213693951 = a % 2305843009213693951 := Int.tmod_eq_emod_of_nonneg h
theorem mrng (a : Int) : 0 ≤ a % 2305843009213693951 ∧ a % 2305843009213693951 < 2305843009213693951 := ⟨Int.emod_nonneg _ (by decide), Int.emod_lt_of_pos _ (by decide)⟩

theorem mul_meets : Meets Tryd.prog 55 (Spec.pure mulG) := by
 refine meets_fun (E_insSO.at_ 21) Tryd.func55 rfl rfl rfl ?_
 intro args p r hg hp
 unfold mulG at hg
 split at hg
 ·rename_i a b
  simp only [Option.some.injEq, Prod.mk.injEq] at hg
  obtain ⟨rfl, rfl⟩ := hg
  obtain ⟨p0, p1, p2, p3⟩ := hp
  have hT : (E_insSO).X = T := rfl
  have hx0 := @Tryd.results55
  have hx := hx0
  refine ⟨by rfl, ?_⟩
  intro F W0 hnp hmk
  refine vc_seq_k fun N1 h1 => ?_
  refine u_reg ?_
  try refine lg_mk ?_
  refine u_mv (hq := by (first | (omega) | exact sd_)) ?_
  refine lg_nil ?_
  refine h1 _ ?_; clear h1; try clear N1
  refine vc_seq_k fun N2 h2 => ?_
  refine u_reg ?_
  try refine lg_mk ?_
  refine u_mv (hq := by (first | (omega) | exact sd_)) ?_
  refine lg_nil ?_
  refine h2 _ ?_; clear h2; try clear N2
  refine vc_seq_k fun N3 h3 => ?_
  refine vc_block ?_
  refine vc_loop_mk (σ := Int × Int × Int) (fun s => (fun x y o => (0 ≤ x ∧ x < 2305843009213693951) ∧ 0 ≤ y ∧ (0 ≤ o ∧ o < 2305843009213693951) ∧ y ≤ 9223372036854775807 ∧ (o + x * y) % 2305843009213693951 = a * b % 2305843009213693951) (s.1) (s.2.1) (s.2.2))
   (fun s => (fun x y o => [(0, .d (.int .i64 x)), (1, .d (.int .i64 y)), (5, .d (.int .i64 o))]) (s.1) (s.2.1) (s.2.2))
   (fun s => (fun x y o => []) (s.1) (s.2.1) (s.2.2)) (fun s => (fun x y o => y.toNat) (s.1) (s.2.1) (s.2.2)) hnp (a, b, 0) ?_ [] ?_ ?_
  ·dsimp only
   exact ⟨⟨p0, p1⟩, p2, ⟨by omega, by omega⟩, p3, by rw [Int.zero_add]⟩
  ·dsimp only
   refine ⟨by rfl, ?_, ?_⟩
   ·refine fin_ ?_
    exact cl_
   ·refine fin_ ?_
    exact cl_
  ·rintro ⟨x, y, o⟩ hinv N4 h4
   dsimp only at hinv ⊢
   obtain ⟨⟨x0, x1⟩, y0, ⟨o0, o1⟩, y9, i5⟩ := hinv
   have hso := tm (a := o + x) (by omega)
   have hsx := tm (a := 2 * x) (by omega)
   have hm1 := mrng (o + x)
   have hm2 := mrng (2 * x)
   refine vc_seq_k fun N5 h5 => ?_
   refine vc_seq_k fun N6 h6 => ?_
   refine u_reg ?_
   try refine lg_mk ?_
   refine u_mv (hq := by (first | (omega) | exact sd_)) ?_
   refine u_bn (hq := by (first | (omega) | exact sd_)) ?_
   refine lg_nil ?_
   refine h6 _ ?_; clear h6; try clear N6
   refine u_cond (fun hb7 => ?_) (fun hb7 => ?_)
   ·have han := and_one y0
    have hsh := shr_one y
    refine vc_skip ?_
    try simp only [k_rules]
    refine h5 _ ?_; clear h5; try clear N5
    refine vc_seq_k fun N8 h8 => ?_
    refine vc_block ?_
    refine vc_seq_k fun N9 h9 => ?_
    refine vc_seq_k fun N10 h10 => ?_
    have hx := And.intro @han hx0
    refine u_reg ?_
    try refine lg_mk ?_
    refine u_mv (hq := by (first | (omega) | exact sd_)) ?_
    refine u_bn (hq := by (first | (omega) | exact sd_)) ?_
    refine u_bn (hq := by (first | (omega) | exact sd_)) ?_
    refine lg_nil ?_
    have hx := hx0
    refine h10 _ ?_; clear h10; try clear N10
    refine u_cond (fun hb11 => ?_) (fun hb11 => ?_)
    ·have hpar : y % 2 = 1 := by have := hb11; omega
     have hx := And.intro @hso hx0
     refine u_reg ?_
     try refine lg_mk ?_
     refine u_mv (hq := by (first | (omega) | exact sd_)) ?_
     refine u_mv (hq := by (first | (omega) | exact sd_)) ?_
     refine u_bn (hq := by (first | (omega) | exact sd_)) ?_
     refine u_bn (hq := by (first | (omega) | exact sd_)) ?_
     refine u_mv (hq := by (first | (omega) | exact sd_)) ?_
     refine lg_nil ?_
     have hx := hx0
     refine h9 _ ?_; clear h9; try clear N9
     have hx := And.intro @hsx hx0
     refine u_reg ?_
     try refine lg_mk ?_
     refine u_mv (hq := by (first | (omega) | exact sd_)) ?_
     refine u_bn (hq := by (first | (omega) | exact sd_)) ?_
     refine u_bn (hq := by (first | (omega) | exact sd_)) ?_
     refine u_mv (hq := by (first | (omega) | exact sd_)) ?_
     refine lg_nil ?_
     have hx := hx0
     refine h8 _ ?_; clear h8; try clear N8
     have hx := And.intro @hsh hx0
     refine u_reg ?_
     try refine lg_mk ?_
     refine u_mv (hq := by (first | (omega) | exact sd_)) ?_
     refine u_bn (hq := by (first | (omega) | exact sd_)) ?_
     refine u_mv (hq := by (first | (omega) | exact sd_)) ?_
     refine lg_nil ?_
     have hx := hx0
     refine h4 _ ⟨(2 * x % 2305843009213693951, y / 2, (o + x) % 2305843009213693951), ?_, ?_, [], ?_⟩
     ·dsimp only
      exact ⟨hm2, by omega, hm1, by omega, by rw [mul_odd hpar]; exact i5⟩
     ·dsimp only
      omega
     ·dsimp only
      refine ⟨by rfl, ?_, ?_⟩
      ·refine fin_ ?_
       (repeat' apply And.intro) <;> (first | (first | rfl | trivial) | exact cl_)
      ·refine fin_ ?_
       (repeat' apply And.intro) <;> (first | (first | rfl | trivial) | exact cl_)
    ·have hpar : y % 2 = 0 := by have := hb11; omega
     refine vc_skip ?_
     try simp only [k_rules]
     refine h9 _ ?_; clear h9; try clear N9
     have hx := And.intro @hsx hx0
     refine u_reg ?_
     try refine lg_mk ?_
     refine u_mv (hq := by (first | (omega) | exact sd_)) ?_
     refine u_bn (hq := by (first | (omega) | exact sd_)) ?_
     refine u_bn (hq := by (first | (omega) | exact sd_)) ?_
     refine u_mv (hq := by (first | (omega) | exact sd_)) ?_
     refine lg_nil ?_
     have hx := hx0
     refine h8 _ ?_; clear h8; try clear N8
     have hx := And.intro @hsh hx0
     refine u_reg ?_
     try refine lg_mk ?_
     refine u_mv (hq := by (first | (omega) | exact sd_)) ?_
     refine u_bn (hq := by (first | (omega) | exact sd_)) ?_
     refine u_mv (hq := by (first | (omega) | exact sd_)) ?_
     refine lg_nil ?_
     have hx := hx0
     refine h4 _ ⟨(2 * x % 2305843009213693951, y / 2, o), ?_, ?_, [], ?_⟩
     ·dsimp only
      exact ⟨hm2, by omega, ⟨o0, o1⟩, by omega, by rw [mul_even hpar]; exact i5⟩
     ·dsimp only
      omega
     ·dsimp only
      refine ⟨by rfl, ?_, ?_⟩
      ·refine fin_ ?_
       (repeat' apply And.intro) <;> (first | (first | rfl | trivial) | exact cl_)
      ·refine fin_ ?_
       (repeat' apply And.intro) <;> (first | (first | rfl | trivial) | exact cl_)
   ·refine vc_exit ?_
    simp only [k_rules, Nat.reduceEqDiff, reduceIte, eq_self]
    refine h3 _ ?_; clear h3; try clear N3
    refine vc_seq_k fun N12 h12 => ?_
    refine u_reg ?_
    try refine lg_mk ?_
    refine u_mv (hq := by (first | (omega) | exact sd_)) ?_
    refine u_mv (hq := by (first | (omega) | exact sd_)) ?_
    refine lg_nil ?_
    refine h12 _ ?_; clear h12; try clear N12
    refine vc_ret ?_
    try simp only [k_rules]
    have hr := mul_fin i5 (by omega) o0 o1
    rw [hr]
    refine fin2_ ?_
    exact cl_
 ·cases hg

def E_mul : Env Tryd.prog := E_insSO.add 55 (Spec.pure mulG) mul_meets (by kernel_rfl)

theorem next_meets : Meets Tryd.prog 42 (Spec.pure nextG) := by
 refine meets_fun (E_mul.at_ 13) Tryd.func42 rfl rfl rfl ?_
 intro args p r hg hp
 unfold nextG at hg
 split at hg
 ·rename_i a b f
  simp only [Option.some.injEq, Prod.mk.injEq] at hg
  obtain ⟨rfl, rfl⟩ := hg
  obtain ⟨p0, p1, p2, p3, p4, p5⟩ := hp
  have hm := mrng (a * f)
  have ht := tm (a := a * f % 2305843009213693951 + b) (by omega)
  have hT : (E_mul).X = T := rfl
  have hx0 := And.intro @ht @Tryd.results42
  have hx := hx0
  refine ⟨by rfl, ?_⟩
  intro F W0 hnp hmk
  refine vc_seq_k fun N1 h1 => ?_
  refine u_reg ?_
  try refine lg_mk ?_
  refine u_bx (hq := by (first | (omega) | exact sd_)) ?_
  refine u_mv (hq := by (first | (omega) | exact sd_)) ?_
  refine lg_nil ?_
  refine h1 _ ?_; clear h1; try clear N1
  refine vc_seq_k fun N2 h2 => ?_
  refine vc_regT [] (.seq [0, 1, 2] (.alt 3 (.seq [4, 5, 6, 7, 8] .nil) (.alt 4 (.alt 3 (.seq [5, 6, 7, 8] .nil) (.alt 5 (.seq [3, 6, 7, 8] .nil) .nil)) .nil))) hmix (by kernel_rfl) ?_
  refine at_seq ?_
  simp only [pick_rules, list_rules]
  try refine lg_mk ?_
  refine u_pt (hq := by (first | (omega) | exact sd_)) ?_
  refine u_ld (hq := by (first | (omega) | exact sd_)) ?_
  refine u_mv (hq := by (first | (omega) | exact sd_)) ?_
  refine lg_nil ?_
  refine at_alt ?_ ?_
  ·simp only [pick_rules, list_rules]
   try refine lg_mk ?_
   have hc := call_rule (E := (E_mul.at_ 13)) (f := 55) (sp := Spec.pure mulG) rfl
   have hs := @mulG.eq_1
   refine u_cp (hq := by (first | (exact ⟨p0, p1, p4, p5⟩) | exact sd_)) ?_
   refine lg_nil ?_
   refine at_seq ?_
   simp only [pick_rules, list_rules]
   try refine lg_mk ?_
   refine u_pt (hq := by (first | (omega) | exact sd_)) ?_
   refine u_ld (hq := by (first | (omega) | exact sd_)) ?_
   refine u_bn (hq := by (first | (omega) | exact sd_)) ?_
   refine u_bn (hq := by (first | (omega) | exact sd_)) ?_
   refine u_mv (hq := by (first | (omega) | exact sd_)) ?_
   refine lg_nil ?_
   refine at_nil ?_
   refine h2 _ ?_; clear h2; try clear N2
   refine vc_ret ?_
   try simp only [k_rules]
   refine fin2_ ?_
   exact cl_
  refine at_alt ?_ ?_
  ·simp only [pick_rules, list_rules]
   try refine lg_mk ?_
   refine u_pt (hq := by (first | (omega) | exact sd_)) ?_
   refine lg_nil ?_
   refine at_alt ?_ ?_
   ·simp only [pick_rules, list_rules]
    try refine lg_mk ?_
    have hc := call_rule (E := (E_mul.at_ 13)) (f := 55) (sp := Spec.pure mulG) rfl
    have hs := @mulG.eq_1
    refine u_cp (hq := by (first | (exact ⟨p0, p1, p4, p5⟩) | exact sd_)) ?_
    refine lg_nil ?_
    refine at_seq ?_
    simp only [pick_rules, list_rules]
    try refine lg_mk ?_
    refine u_ld (hq := by (first | (omega) | exact sd_)) ?_
    refine u_bn (hq := by (first | (omega) | exact sd_)) ?_
    refine u_bn (hq := by (first | (omega) | exact sd_)) ?_
    refine u_mv (hq := by (first | (omega) | exact sd_)) ?_
    refine lg_nil ?_
    refine at_nil ?_
    refine h2 _ ?_; clear h2; try clear N2
    refine vc_ret ?_
    try simp only [k_rules]
    refine fin2_ ?_
    exact cl_
   refine at_alt ?_ ?_
   ·simp only [pick_rules, list_rules]
    try refine lg_mk ?_
    refine u_ld (hq := by (first | (omega) | exact sd_)) ?_
    refine lg_nil ?_
    refine at_seq ?_
    simp only [pick_rules, list_rules]
    try refine lg_mk ?_
    have hc := call_rule (E := (E_mul.at_ 13)) (f := 55) (sp := Spec.pure mulG) rfl
    have hs := @mulG.eq_1
    refine u_cp (hq := by (first | (exact ⟨p0, p1, p4, p5⟩) | exact sd_)) ?_
    refine u_bn (hq := by (first | (omega) | exact sd_)) ?_
    refine u_bn (hq := by (first | (omega) | exact sd_)) ?_
    refine u_mv (hq := by (first | (omega) | exact sd_)) ?_
    refine lg_nil ?_
    refine at_nil ?_
    refine h2 _ ?_; clear h2; try clear N2
    refine vc_ret ?_
    try simp only [k_rules]
    refine fin2_ ?_
    exact cl_
   exact at_end
  exact at_end
 ·cases hg

def E_next : Env Tryd.prog := E_mul.add 42 (Spec.pure nextG) next_meets (by kernel_rfl)

theorem digOf_meets : Meets Tryd.prog 28 (Spec.pure ofG) := by
 refine meets_fun (E_next.at_ 26) Tryd.func28 rfl rfl rfl ?_
 intro args p r hg hp
 unfold ofG at hg
 split at hg
 ·rename_i xs
  simp only [Option.some.injEq, Prod.mk.injEq] at hg
  obtain ⟨rfl, rfl⟩ := hg
  obtain ⟨he, hl⟩ := hp
  generalize dU xs = l at *
  subst he
  have hT : (E_next).X = T := rfl
  have hx0 := @Tryd.results28
  have hx := hx0
  refine ⟨by rfl, ?_⟩
  intro F W0 hnp hmk
  refine vc_seq_k fun N1 h1 => ?_
  refine u_reg ?_
  try refine lg_mk ?_
  refine u_mv (hq := by (first | (omega) | exact sd_)) ?_
  refine u_al (hq := by (first | (omega) | exact sd_)) ?_
  refine lg_nil ?_
  refine h1 _ ?_; clear h1; try clear N1
  refine vc_seq_k fun N2 h2 => ?_
  refine vc_seq_k fun N3 h3 => ?_
  refine u_reg ?_
  try refine lg_mk ?_
  refine u_mv (hq := by (first | (omega) | exact sd_)) ?_
  refine u_ln (hq := by (first | (omega) | exact sd_)) ?_
  refine u_bn (hq := by (first | (omega) | exact sd_)) ?_
  refine lg_nil ?_
  refine h3 _ ?_; clear h3; try clear N3
  refine u_cond (fun hb4 => ?_) (fun hb4 => ?_)
  ·first | omega | exact absurd trivial hb4 | contradiction | (simp_all; done)
  ·refine vc_skip ?_
   try simp only [k_rules]
   refine h2 _ ?_; clear h2; try clear N2
   refine vc_seq_k fun N5 h5 => ?_
   refine u_reg ?_
   try refine lg_mk ?_
   refine u_mv (hq := by (first | (omega) | exact sd_)) ?_
   refine lg_nil ?_
   refine h5 _ ?_; clear h5; try clear N5
   refine vc_seq_k fun N6 h6 => ?_
   refine vc_seq_k fun N7 h7 => ?_
   refine u_reg ?_
   try refine lg_mk ?_
   refine u_mv (hq := by (first | (omega) | exact sd_)) ?_
   refine u_ln (hq := by (first | (omega) | exact sd_)) ?_
   refine u_mv (hq := by (first | (omega) | exact sd_)) ?_
   refine lg_nil ?_
   refine h7 _ ?_; clear h7; try clear N7
   refine vc_block ?_
   refine vc_loop_mk (σ := Nat) (fun s => (fun i => i ≤ l.length) s)
    (fun s => (fun i => [(0, .d (.sl (rows eU l))), (3, .ptr 0 0 0), (4, .d (.int .i64 (dig (l.take i)))), (11, .d (.sl (rows eU l))), (12, .d (.int .i64 (l.length : Nat))), (13, .d (.int .i64 (i : Nat)))]) s)
    (fun s => (fun i => [some (.one 33 [.d (.int .i64 0), .d (.int .i64 0)])]) s) (fun s => (fun i => l.length - i) s) hnp 0 ?_ [some 0] ?_ ?_
   ·dsimp only
    omega
   ·dsimp only
    refine ⟨by rfl, ?_, ?_⟩
    ·refine fin_ ?_
     exact cl_
    ·refine fin_ ?_
     exact cl_
   ·rintro i hinv N8 h8
    dsimp only at hinv ⊢
    have i1 := hinv
    refine vc_seq_k fun N9 h9 => ?_
    refine u_reg ?_
    try refine lg_mk ?_
    refine u_bn (hq := by (first | (omega) | exact sd_)) ?_
    refine lg_nil ?_
    refine h9 _ ?_; clear h9; try clear N9
    refine vc_seq_k fun N10 h10 => ?_
    refine u_cond (fun hb11 => ?_) (fun hb11 => ?_)
    ·obtain ⟨x, hxe⟩ := getE (l := l) (i := i) (by omega)
     have hxl := x.toNat_lt
     have hdn := dig_next (dig (l.take i)) x
     have hsn := dig_snoc l i x hxe
     rw [← hdn] at hsn
     have hrg := dig_rng (l.take i)
     refine vc_skip ?_
     try simp only [k_rules]
     refine h10 _ ?_; clear h10; try clear N10
     refine vc_seq_k fun N12 h12 => ?_
     refine vc_block ?_
     refine vc_seq_k fun N13 h13 => ?_
     have hx := And.intro @hxe (And.intro @eU.eq_1 hx0)
     refine u_reg ?_
     try refine lg_mk ?_
     refine u_pt (hq := by (first | (omega) | exact sd_)) ?_
     refine u_ld (hq := by (first | (omega) | exact sd_)) ?_
     refine u_mv (hq := by (first | (omega) | exact sd_)) ?_
     refine lg_nil ?_
     have hx := hx0
     refine h13 _ ?_; clear h13; try clear N13
     refine u_reg ?_
     try refine lg_mk ?_
     refine u_mv (hq := by (first | (omega) | exact sd_)) ?_
     refine u_mv (hq := by (first | (omega) | exact sd_)) ?_
     refine u_cv (hq := by (first | (omega) | exact sd_)) ?_
     refine u_bn (hq := by (first | (omega) | exact sd_)) ?_
     refine u_bd (hq := by (first | (omega) | exact sd_)) ?_
     have hc := call_rule (E := (E_next.at_ 26)) (f := 42) (sp := Spec.pure nextG) rfl
     have hs := @nextG.eq_1
     refine u_cp (hq := by (first | (exact ⟨hrg.1, hrg.2, by omega, by omega, by omega, by omega⟩) | exact sd_)) ?_
     refine u_mv (hq := by (first | (omega) | exact sd_)) ?_
     refine lg_nil ?_
     refine h12 _ ?_; clear h12; try clear N12
     refine u_reg ?_
     try refine lg_mk ?_
     refine u_bn (hq := by (first | (omega) | exact sd_)) ?_
     refine u_mv (hq := by (first | (omega) | exact sd_)) ?_
     refine lg_nil ?_
     refine h8 _ ⟨i + 1, ?_, ?_, [some 0], ?_⟩
     ·dsimp only
      omega
     ·dsimp only
      omega
     ·dsimp only
      refine ⟨by rfl, ?_, ?_⟩
      ·refine fin_ ?_
       (repeat' apply And.intro) <;> (first | (first | rfl | trivial | (rw [hsn]; done)) | exact cl_)
      ·refine fin_ ?_
       (repeat' apply And.intro) <;> (first | (first | rfl | trivial | (rw [hsn]; done)) | exact cl_)
    ·refine vc_exit ?_
     simp only [k_rules, Nat.reduceEqDiff, reduceIte, eq_self]
     refine h6 _ ?_; clear h6; try clear N6
     refine vc_seq_k fun N14 h14 => ?_
     refine u_reg ?_
     try refine lg_mk ?_
     refine u_mv (hq := by (first | (omega) | exact sd_)) ?_
     refine u_bd (hq := by (first | (omega) | exact sd_)) ?_
     refine u_mv (hq := by (first | (omega) | exact sd_)) ?_
     refine u_st (hq := by (first | (omega) | exact sd_)) ?_
     refine lg_nil ?_
     refine h14 _ ?_; clear h14; try clear N14
     refine vc_ret ?_
     try simp only [k_rules]
     obtain rfl : i = l.length := by omega
     rw [List.take_length]
     refine fin2_ ?_
     exact cl_
 ·cases hg

def E_digOf : Env Tryd.prog := E_next.add 28 (Spec.pure ofG) digOf_meets (by kernel_rfl)
end Go.Proofs.YtcjipciiljjfhaaDoor
