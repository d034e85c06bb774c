/- Walks, printed by wip/gen/walk.py. -/
import Derived.Test.YtjdhadbnmghdgaaT24
import Derived.Test.YtjdhadbnmghdgaaV5
set_option linter.all false
set_option maxRecDepth 100000
set_option maxHeartbeats 4000000
namespace Go.Proofs.Ytjdhadbnmghdgaa
open Go Go.Vc Go.RowKit
def delA {α : Type} (Q : α → Bool) (l : List α) : List α := l.filter fun x => !Q x
def fidxA {α : Type} (P : α → Bool) (l : List α) : Int := if l.any P then (l.findIdx P : Nat) else -1
theorem fidxA_at {α : Type} {P : α → Bool} {l : List α} {i : Nat} {x : α} (h : l[i]? = some x) (hp : P x = true) (hn : ∀ y ∈ l.take i, P y = false) : fidxA P l = i := by
  have ha : l.any P = true := List.any_eq_true.2 ⟨x, List.mem_of_getElem? h, hp⟩
  unfold fidxA; rw [if_pos ha]
  congr 1
  clear ha
  induction l generalizing i with
  | nil => simp at h
  | cons a l ih =>
    cases i with
    | zero => simp only [List.getElem?_cons_zero, Option.some.injEq] at h; subst h; rw [List.findIdx_cons, hp]; rfl
    | succ i =>
      have h1 := hn a (by simp)
      rw [List.findIdx_cons, h1, ih (by simpa using h) (fun y hy => hn y (by simp [hy]))]; rfl
theorem fidxA_none {α : Type} {P : α → Bool} {l : List α} (hn : ∀ y ∈ l, P y = false) : fidxA P l = -1 := by
  unfold fidxA; rw [if_neg]
  rw [List.any_eq_true]; rintro ⟨x, hx, h⟩; rw [hn x hx] at h; cases h
theorem fidxA_or {α : Type} (Q : α → Bool) (l : List α) : (fidxA Q l = -1 ∧ ∀ y ∈ l, Q y = false) ∨ ∃ i : Nat, ∃ x, fidxA Q l = (i : Int) ∧ l[i]? = some x ∧ Q x = true ∧ ∀ y ∈ l.take i, Q y = false := by
  unfold fidxA
  split
  · rename_i h
    have hlt := List.findIdx_lt_length.2 (List.any_eq_true.1 h)
    refine .inr ⟨_, _, rfl, List.getElem?_eq_getElem hlt, List.findIdx_getElem, fun y hy => ?_⟩
    obtain ⟨j, hj⟩ := List.getElem?_of_mem hy
    rw [List.getElem?_take] at hj
    split at hj
    · rename_i hjl
      have := List.not_of_lt_findIdx hjl
      have h2 := (List.getElem?_eq_some_iff.1 hj).2
      rw [h2] at this
      simpa using this
    · cases hj
  · rename_i h
    refine .inl ⟨rfl, fun y hy => ?_⟩
    cases hq : Q y with
    | false => rfl
    | true => exact absurd (List.any_eq_true.2 ⟨y, hy, hq⟩) h
theorem delA_none {α : Type} {Q : α → Bool} {l : List α} (h : ∀ y ∈ l, Q y = false) : delA Q l = l := List.filter_eq_self.2 fun x hx => by rw [h x hx]; rfl
/-- DeleteFunc's loop. -/
structure DelA {α : Type} (Q : α → Bool) (l m : List α) (i j : Nat) : Prop where
  len : m.length = l.length
  le : i < j
  jl : j ≤ l.length
  low : m.take i = delA Q (l.take j)
  high : m.drop j = l.drop j
theorem DelA.start {α : Type} {Q : α → Bool} {l : List α} {i : Nat} {x : α} (hx : l[i]? = some x) (hq : Q x = true) (hn : ∀ y ∈ l.take i, Q y = false) : DelA Q l l i (i + 1) := by
  refine ⟨rfl, by omega, (List.getElem?_eq_some_iff.1 hx).1, ?_, rfl⟩
  unfold delA
  rw [List.take_add_one, hx, List.filter_append, show List.filter (fun x => !Q x) (Option.toList (some x)) = [] by simp [hq], List.append_nil]
  exact (delA_none hn).symm
theorem DelA.get {α : Type} {Q : α → Bool} {l m : List α} {i j : Nat} (h : DelA Q l m i j) (hj : j < l.length) : ∃ x, m[j]? = some x ∧ l[j]? = some x := by
  obtain ⟨x, hx⟩ := getE hj
  refine ⟨x, ?_, hx⟩
  have := congrArg (fun z => z[0]?) h.high
  simpa [List.getElem?_drop, hx] using this
theorem DelA.keep {α : Type} {Q : α → Bool} {l m : List α} {i j : Nat} {x : α} (h : DelA Q l m i j) (hx : l[j]? = some x) (hq : Q x = false) : DelA Q l (m.set i x) (i + 1) (j + 1) := by
  have hj := (List.getElem?_eq_some_iff.1 hx).1
  have := h.le; have := h.len
  refine ⟨by simp [h.len], by omega, by omega, ?_, ?_⟩
  · rw [List.take_add_one, List.take_set_of_le (Nat.le_refl _), h.low, List.getElem?_set]
    unfold delA
    rw [List.take_add_one, hx, List.filter_append]
    simp [hq, show i < m.length by omega]
  · rw [List.drop_set_of_lt (by omega), ← List.drop_drop, ← List.drop_drop, h.high]
theorem DelA.skip {α : Type} {Q : α → Bool} {l m : List α} {i j : Nat} {x : α} (h : DelA Q l m i j) (hx : l[j]? = some x) (hq : Q x = true) : DelA Q l m i (j + 1) := by
  have hj := (List.getElem?_eq_some_iff.1 hx).1
  have := h.le
  refine ⟨h.len, by omega, by omega, ?_, by rw [← List.drop_drop, ← List.drop_drop, h.high]⟩
  rw [h.low]; unfold delA
  rw [List.take_add_one, hx, List.filter_append]
  simp [hq]
theorem DelA.fin {α : Type} {Q : α → Bool} {l m : List α} {i : Nat} (h : DelA Q l m i l.length) : m.take i = delA Q l ∧ (delA Q l).length = i := by
  have h1 := h.low; rw [List.take_length] at h1
  refine ⟨h1, ?_⟩
  rw [← h1, List.length_take]; have := h.le; have := h.len; omega

def noT (p : Post) : Bool := decide (p.2 = [])
def rm1 (n : Int) (p : Post) : Post := (p.1, delI (isN n) p.2)
def remK (P : List Post) (n : Int) (i : Nat) : List Post := (P.take i).map (rm1 n) ++ P.drop i
theorem remK_len (P : List Post) (n : Int) (i : Nat) : (remK P n i).length = P.length := by unfold remK; simp; omega
theorem remK_at {P : List Post} {n : Int} {i : Nat} {p : Post} (h : P[i]? = some p) : (remK P n i)[i]? = some p := by
  have hl := (List.getElem?_eq_some_iff.1 h).1
  unfold remK
  rw [List.getElem?_append_right (by simp; omega)]
  simp only [List.length_map, List.length_take, Nat.min_eq_left (Nat.le_of_lt hl), List.getElem?_drop, Nat.sub_self, Nat.add_zero]
  exact h
theorem remK_succ {P : List Post} {n : Int} {i : Nat} {p : Post} (h : P[i]? = some p) : remK P n (i + 1) = (remK P n i).set i (rm1 n p) := by
  have hl := (List.getElem?_eq_some_iff.1 h).1
  unfold remK
  rw [List.set_append_right _ _ (by simp; omega), take_snoc h]
  simp only [List.length_map, List.length_take, Nat.min_eq_left (Nat.le_of_lt hl), Nat.sub_self, List.map_append, List.append_assoc, List.map_cons, List.map_nil]
  congr 1
  rw [List.drop_eq_getElem_cons hl]; rfl
theorem remK_all (P : List Post) (n : Int) : delA noT (remK P n P.length) = remP P n := by
  unfold remK remP delA
  rw [List.take_length, List.drop_length, List.append_nil]
  apply List.filter_congr
  intro p _
  simp [noT]
theorem remK_small {P : List Post} {n : Int} {i : Nat} (h : smallP P) : smallP (remK P n i) := fun p hp => by
  unfold remK at hp
  rcases List.mem_append.1 hp with hp | hp
  · obtain ⟨q, hq, rfl⟩ := List.mem_map.1 hp
    have h1 := h q (List.mem_of_mem_take hq)
    have h2 := delI_len (isN n) q.2
    exact ⟨h1.1, Nat.le_trans h2 h1.2⟩
  · exact h p (List.mem_of_mem_drop hp)
theorem remK_0 (P : List Post) (n : Int) : remK P n 0 = P := by simp [remK]
def noTG : List AV → Option (Prop × AV)
  | [.agg [.d (.str _), .d (.sl ts)]] => some (ts = rows eI (dI ts) ∧ (dI ts).length ≤ 9223372036854775807, .d (.bool (decide (dI ts = []))))
  | _ => none
def ixPG : List AV → Option (Prop × AV)
  | [.d (.sl xs), .clo (.func 45) []] => some (xs = rows eP (dP xs) ∧ (dP xs).length ≤ 1000000000 ∧ smallP (dP xs), .d (.int .i64 (fidxA noT (dP xs))))
  | _ => none
def delPG : GFun
  | [.sl 0 0 n, .clo (.func 45) []], [some (.vec t s xs)] =>
    some (t = 55 ∧ s = 2 ∧ xs = rows eP (dP xs) ∧ n = (dP xs).length ∧ (dP xs).length ≤ 1000000000 ∧ smallP (dP xs),
      .sl 0 0 (delA noT (dP xs)).length, [some (.vec 55 2 (rows eP (delA noT (dP xs))))])
  | _, _ => none
def rDelG : GFun
  | [.sl 0 0 n, .ptr 1 0 0], [some (.vec t s xs), some (.one ti [.d (.int .i64 m)])] =>
    some (t = 3 ∧ s = 1 ∧ xs = rows eI (dI xs) ∧ n = (dI xs).length ∧ (dI xs).length ≤ 1000000000,
      .sl 0 0 (delI (isN m) (dI xs)).length, [some (.vec 3 1 (rows eI (delI (isN m) (dI xs)))), some (.one ti [.d (.int .i64 m)])])
  | _, _ => none
theorem noT_len (g : Bs) (t : List Int) : noT (g, t) = decide ((t.length : Int) = 0) := by
  unfold noT; apply decide_eq_decide.2
  constructor
  · intro h; simp only at h; rw [h]; rfl
  · intro h; exact List.eq_nil_of_length_eq_zero (show t.length = 0 by omega)
theorem set_rowP2 {P : List Post} {k : Nat} {g : Bs} {t : List Int} : (rows eP P).set k [.str g, .sl (rows eI t)] = rows eP (P.set k (g, t)) := set_rowP
def remF (ts : List Int) (P : List Post) (n : Int) : Int × Int := if (valF ts P).1 ≠ 0 then valF ts P else if n ∉ ts then (6, -1) else (0, 0)
def remTs (ts : List Int) (P : List Post) (n : Int) : List Int := if (remF ts P n).1 = 0 then delI (isN n) ts else []
def remPs (ts : List Int) (P : List Post) (n : Int) : List Post := if (remF ts P n).1 = 0 then remP P n else []
def remvG : List AV → Option (Prop × AV)
  | [.agg [.d (.sl xs), .d (.sl ps)], .d (.int .i64 n)] => some (xs = rows eI (dI xs) ∧ (dI xs).length ≤ 9223372036854775807 ∧ ps = rows eP (dP ps) ∧ (dP ps).length ≤ 9223372036854775807 ∧ smallP (dP ps),
      .tup [.agg [.d (.sl (rows eI (remTs (dI xs) (dP ps) n))), .d (.sl (rows eP (remPs (dI xs) (dP ps) n)))], .agg [.d (.int .i64 (remF (dI xs) (dP ps) n).1), .d (.int .i64 (remF (dI xs) (dP ps) n).2)]])
  | _ => none

theorem rDel_meets : Meets Try.prog 42 (Spec.gen rDelG) := by
 refine meets_handed (E_addT.at_ 7) Try.func42 rfl rfl rfl ?_
 intro args bl p r bf hg hp
 unfold rDelG at hg
 split at hg
 ·rename_i n t s xs ti m'
  simp only [Option.some.injEq, Prod.mk.injEq] at hg
  obtain ⟨rfl, rfl, rfl⟩ := hg
  obtain ⟨rfl, rfl, he, rfl, hl⟩ := hp
  generalize dI xs = l at *
  subst he
  have hT : (E_addT).X = T := rfl
  have hx0 := And.intro @dI_rows @Try.results42
  have hx := hx0
  refine ⟨Nat.le_of_ble_eq_true rfl, ?_⟩
  intro F W0 M0 hnp hmk
  have hnp : Far.np = 2 := hnp
  refine vc_seq_k fun N1 h1 => ?_
  refine u_reg ?_
  try refine lg_mk ?_
  refine u_mv ?_
  refine lg_nil ?_
  refine h1 _ ?_; clear h1; try clear N1
  refine vc_seq_k fun N2 h2 => ?_
  refine u_reg ?_
  try refine lg_mk ?_
  refine u_mv ?_
  refine u_mf ?_
  have hc := call_rule (E := (E_addT.at_ 7)) (f := 38) (sp := Spec.gen delIG) rfl
  have hs := And.intro @delIG.eq_1 @delIG.eq_2
  refine u_hg (hq := by (first | (first | exact ⟨by simp, by simp; omega⟩ | (simp; omega) | omega) | exact sd_)) ?_
  refine u_mv ?_
  refine lg_nil ?_
  try simp only [List.take_length]
  refine h2 _ ?_; clear h2; try clear N2
  refine vc_ret ?_
  try simp only [k_rules]
  refine fin_ ?_
  refine ⟨[some 0, some 1], by rfl, ?_, ?_⟩
  ·refine fin_ ?_
   exact cl_
  ·refine fin_ ?_
   exact cl_
 ·cases hg

def E_rDel : Env Try.prog := E_addT.add 42 (Spec.gen rDelG) rDel_meets (by kernel_rfl)

theorem noTC_meets : Meets Try.prog 45 (Spec.pure noTG) := by
 refine meets_fun (E_rDel.at_ 7) Try.func45 rfl rfl rfl ?_
 intro args p r hg hp
 unfold noTG at hg
 split at hg
 ·rename_i g ts
  simp only [Option.some.injEq, Prod.mk.injEq] at hg
  obtain ⟨rfl, rfl⟩ := hg
  obtain ⟨he, hl⟩ := hp
  generalize dI ts = l at *
  subst he
  have hT : (E_rDel).X = T := rfl
  have hx0 := @Try.results45
  have hx := hx0
  refine ⟨by rfl, ?_⟩
  intro F W0 hnp hmk
  refine vc_seq_k fun N1 h1 => ?_
  refine u_reg ?_
  try refine lg_mk ?_
  refine u_bx ?_
  refine u_mv ?_
  refine lg_nil ?_
  refine h1 _ ?_; clear h1; try clear N1
  refine vc_seq_k fun N2 h2 => ?_
  refine u_reg ?_
  try refine lg_mk ?_
  refine u_pt ?_
  refine u_ld ?_
  refine u_ln ?_
  refine u_bn ?_
  refine u_mv ?_
  refine lg_nil ?_
  refine h2 _ ?_; clear h2; try clear N2
  refine vc_ret ?_
  try simp only [k_rules]
  have hr : decide (l = []) = decide ((l.length : Int) = 0) := noT_len [] l
  rw [hr]
  refine fin2_ ?_
  exact cl_
 ·cases hg

def E_noTC : Env Try.prog := E_rDel.add 45 (Spec.pure noTG) noTC_meets (by kernel_rfl)

theorem ixP_meets : Meets Try.prog 54 (Spec.pure ixPG) := by
 refine meets_fun (E_noTC.at_ 19) Try.func54 rfl rfl rfl ?_
 intro args p r hg hp
 unfold ixPG at hg
 split at hg
 ·rename_i xs
  simp only [Option.some.injEq, Prod.mk.injEq] at hg
  obtain ⟨rfl, rfl⟩ := hg
  obtain ⟨he, hl, hsm⟩ := hp
  generalize dP xs = P at *
  subst he
  have hT : (E_noTC).X = T := rfl
  have hx0 := And.intro @rect_eP (And.intro @eP_eq (And.intro @dI_rows @Try.results54))
  have hx := hx0
  refine ⟨by rfl, ?_⟩
  intro F W0 hnp hmk
  refine vc_seq_k fun N1 h1 => ?_
  refine u_reg ?_
  try refine lg_mk ?_
  refine u_mv ?_
  refine lg_nil ?_
  refine h1 _ ?_; clear h1; try clear N1
  refine vc_seq_k fun N2 h2 => ?_
  refine vc_seq_k fun N3 h3 => ?_
  refine u_reg ?_
  try refine lg_mk ?_
  refine u_mv ?_
  refine u_ln ?_
  refine u_mv ?_
  refine lg_nil ?_
  refine h3 _ ?_; clear h3; try clear N3
  refine vc_block ?_
  refine vc_loop_mk (σ := Nat) (fun s => (fun k => k ≤ P.length ∧ ∀ y ∈ P.take k, noT y = false) s)
   (fun s => (fun k => [(0, .d (.sl (rows eP P))), (1, .clo (.func 45) []), (6, .d (.sl (rows eP P))), (7, .d (.int .i64 (P.length : Nat))), (8, .d (.int .i64 (k : Nat)))]) s)
   (fun s => (fun k => []) s) (fun s => (fun k => P.length - k) s) hnp 0 ?_ [] ?_ ?_
  ·dsimp only
   simp
  ·dsimp only
   refine ⟨by rfl, ?_, ?_⟩
   ·refine fin_ ?_
    exact cl_
   ·refine fin_ ?_
    exact cl_
  ·rintro k hinv N4 h4
   dsimp only at hinv ⊢
   obtain ⟨k1, k2⟩ := hinv
   refine vc_seq_k fun N5 h5 => ?_
   refine u_reg ?_
   try refine lg_mk ?_
   refine u_bn ?_
   refine lg_nil ?_
   refine h5 _ ?_; clear h5; try clear N5
   refine vc_seq_k fun N6 h6 => ?_
   refine u_cond (fun hb7 => ?_) (fun hb7 => ?_)
   ·obtain ⟨⟨g, t⟩, hxe⟩ := getE (l := P) (i := k) (by omega)
    have htl : t.length ≤ 9223372036854775807 := (hsm _ (mem_at hxe)).2
    refine vc_skip ?_
    try simp only [k_rules]
    refine h6 _ ?_; clear h6; try clear N6
    refine vc_seq_k fun N8 h8 => ?_
    refine vc_block ?_
    refine vc_seq_k fun N9 h9 => ?_
    refine u_reg ?_
    try refine lg_mk ?_
    refine u_mv ?_
    refine u_mv ?_
    refine lg_nil ?_
    refine h9 _ ?_; clear h9; try clear N9
    refine vc_seq_k fun N10 h10 => ?_
    have hx := And.intro @hxe hx0
    refine u_reg ?_
    try refine lg_mk ?_
    refine u_mv ?_
    refine u_mv ?_
    refine u_mv ?_
    refine u_pt ?_
    refine u_ld ?_
    have hc := (rfl : ((E_noTC.at_ 19)).Γ 45 = some (Spec.pure noTG))
    have hs := (@noTG.eq_1)
    refine u_kp (hq := by (first | (first | exact htl | exact ⟨rfl, htl⟩ | (rw [dI_rows]; exact ⟨rfl, htl⟩)) | exact sd_)) ?_
    refine lg_nil ?_
    have hx := hx0
    refine h10 _ ?_; clear h10; try clear N10
    refine u_cond (fun hb11 => ?_) (fun hb11 => ?_)
    ·have ht : noT (g, t) = true := by have := hb11; (try simp only [dI_rows] at this); unfold noT; simpa using this
     refine vc_seq_k fun N12 h12 => ?_
     refine u_reg ?_
     try refine lg_mk ?_
     refine u_mv ?_
     refine u_mv ?_
     refine lg_nil ?_
     refine h12 _ ?_; clear h12; try clear N12
     refine vc_ret ?_
     try simp only [k_rules]
     rw [fidxA_at hxe ht k2]
     refine fin2_ ?_
     exact cl_
    ·have ht : noT (g, t) = false := by have := hb11; (try simp only [dI_rows] at this); unfold noT; simpa using this
     refine vc_skip ?_
     try simp only [k_rules]
     refine h8 _ ?_; clear h8; try clear N8
     refine u_reg ?_
     try refine lg_mk ?_
     refine u_bn ?_
     refine u_mv ?_
     refine lg_nil ?_
     refine h4 _ ⟨k + 1, ?_, ?_, [], ?_⟩
     ·dsimp only
      exact ⟨by omega, none_snoc k2 hxe ht⟩
     ·dsimp only
      omega
     ·dsimp only
      refine ⟨by rfl, ?_, ?_⟩
      ·refine fin_ ?_
       exact cl_
      ·refine fin_ ?_
       exact cl_
   ·refine vc_exit ?_
    simp only [k_rules, Nat.reduceEqDiff, reduceIte, eq_self]
    refine h2 _ ?_; clear h2; try clear N2
    refine vc_seq_k fun N13 h13 => ?_
    refine u_reg ?_
    try refine lg_mk ?_
    refine u_mv ?_
    refine lg_nil ?_
    refine h13 _ ?_; clear h13; try clear N13
    refine vc_ret ?_
    try simp only [k_rules]
    rw [fidxA_none (by rw [List.take_of_length_le (by omega)] at k2; exact k2)]
    refine fin2_ ?_
    exact cl_
 ·cases hg

def E_ixP : Env Try.prog := E_noTC.add 54 (Spec.pure ixPG) ixP_meets (by kernel_rfl)
end Go.Proofs.Ytjdhadbnmghdgaa
