/- Walks, printed by wip/gen/walk.py. -/
import Derived.Test.YtjdhadbnmghdgaaT9
import Derived.Test.YtjdhadbnmghdgaaV5
set_option linter.all false
set_option maxRecDepth 100000
set_option maxHeartbeats 4000000
namespace Go.Proofs.Ytjdhadbnmghdgaa
open Go Go.Vc Go.RowKit
def fidx (P : Int → Bool) (l : List Int) : Int := if l.any P then (l.findIdx P : Nat) else -1
theorem fidx_at {P : Int → Bool} {l : List Int} {i : Nat} {x : Int} (h : l[i]? = some x) (hp : P x = true) (hn : ∀ y ∈ l.take i, P y = false) : fidx P l = i := by
  have ha : l.any P = true := List.any_eq_true.2 ⟨x, List.mem_of_getElem? h, hp⟩
  unfold fidx; rw [if_pos ha]
  congr 1
  clear ha
  induction l generalizing i with
  | nil => simp at h
  | cons a l ih =>
    cases i with
    | zero => simp only [List.getElem?_cons_zero, Option.some.injEq] at h; subst h; rw [List.findIdx_cons, hp]; rfl
    | succ i =>
      have h1 := hn a (by simp)
      rw [List.findIdx_cons, h1, ih (by simpa using h) (fun y hy => hn y (by simp [hy]))]; rfl
theorem fidx_none {P : Int → Bool} {l : List Int} (hn : ∀ y ∈ l, P y = false) : fidx P l = -1 := by
  unfold fidx; rw [if_neg]
  rw [List.any_eq_true]; rintro ⟨x, hx, h⟩; rw [hn x hx] at h; cases h
theorem fidx_any (P : Int → Bool) (l : List Int) : decide (0 ≤ fidx P l) = l.any P := by
  unfold fidx; split
  · rename_i h; rw [h]; exact decide_eq_true (by omega)
  · rename_i h; rw [Bool.not_eq_true] at h; rw [h]; exact decide_eq_false (by omega)

def outB (ns : List Int) (p : Int) : Bool := !decide (p ∈ ns)
def vCloG : List AV → Option (Prop × AV)
  | [.d (.int .i64 p), .d (.ptr [.sl ns, _])] => some (ns = rows eI (dI ns) ∧ (dI ns).length ≤ 9223372036854775807, .d (.bool (outB (dI ns) p)))
  | _ => none
def ixFG : List AV → Option (Prop × AV)
  | [.d (.sl xs), .clo (.func 34) [.d (.ptr [.sl ns, z])]] => some (xs = rows eI (dI xs) ∧ (dI xs).length ≤ 9223372036854775807 ∧ ns = rows eI (dI ns) ∧ (dI ns).length ≤ 9223372036854775807, .d (.int .i64 (fidx (outB (dI ns)) (dI xs))))
  | _ => none
def conFG : List AV → Option (Prop × AV)
  | [.d (.sl xs), .clo (.func 34) [.d (.ptr [.sl ns, z])]] => some (xs = rows eI (dI xs) ∧ (dI xs).length ≤ 9223372036854775807 ∧ ns = rows eI (dI ns) ∧ (dI ns).length ≤ 9223372036854775807, .d (.bool ((dI xs).any (outB (dI ns)))))
  | _ => none
theorem all_false_snoc {l : List Int} {k : Nat} {x : Int} {P : Int → Bool} (h : ∀ y ∈ l.take k, P y = false) (hx : l[k]? = some x) (hp : P x = false) : ∀ y ∈ l.take (k + 1), P y = false := all_snoc h hx hp
/-- The fault of a posting. -/
def pfT (ts : List Int) (P : List Post) (i : Nat) : Int :=
  if (P.getD i ([], [])).1.length ≠ 3 then 9 else if (0 < i ∧ blt (P.getD (i - 1) ([], [])).1 (P.getD i ([], [])).1 = false) ∨ (P.getD i ([], [])).2 = [] ∨ incB (P.getD i ([], [])).2 = false then 5 else if (P.getD i ([], [])).2.any (outB ts) = true then 6 else 0
def valF (ts : List Int) (P : List Post) : Int × Int := if (txF ts).1 ≠ 0 then txF ts else firstF (pfT ts P) (fun i => (i : Int)) P.length
theorem firstF_or (f g : Nat → Int) : ∀ n, firstF f g n = (0, 0) ∨ (firstF f g n).1 ≠ 0
  | 0 => .inl rfl
  | n + 1 => by
    unfold firstF
    split
    · exact .inr (by assumption)
    · split
      · exact .inr (by assumption)
      · exact .inl rfl
theorem txF_or (l : List Int) : txF l = (0, 0) ∨ (txF l).1 ≠ 0 := by
  unfold txF; split
  · exact .inr (by decide)
  · exact firstF_or _ _ _
def smallP (P : List Post) : Prop := ∀ p ∈ P, p.1.length ≤ 9223372036854775807 ∧ p.2.length ≤ 9223372036854775807
def valTG : List AV → Option (Prop × AV)
  | [.agg [.d (.sl xs), .d (.sl ps)]] => some (xs = rows eI (dI xs) ∧ (dI xs).length ≤ 9223372036854775807 ∧ ps = rows eP (dP ps) ∧ (dP ps).length ≤ 9223372036854775807 ∧ smallP (dP ps), .agg [.d (.int .i64 (valF (dI xs) (dP ps)).1), .d (.int .i64 (valF (dI xs) (dP ps)).2)])
  | _ => none
theorem five (P : List Post) (i : Nat) (g : Bs) (t : List Int) : (0 < i ∧ blt (P.getD (i - 1) ([], [])).1 g = false) ∨ (i = 0 ∧ t = []) ∨ (i = 0 ∧ t ≠ []) ∨ (0 < i ∧ blt (P.getD (i - 1) ([], [])).1 g = true ∧ t = []) ∨ (0 < i ∧ blt (P.getD (i - 1) ([], [])).1 g = true ∧ t ≠ []) := by
  rcases Nat.eq_zero_or_pos i with h | h <;> by_cases ht : t = [] <;> cases hb : blt (P.getD (i - 1) ([], [])).1 g <;> simp [h, ht, hb] <;> omega
theorem le_of {a b : Bs} (h : blt b a = false) : (Op.bytesLess a b || decide (a = b)) = true := by
  cases h' : Op.bytesLess a b with
  | true => rfl
  | false => simp [blt_total (a := a) (b := b) h' h]
theorem not_le_of {a b : Bs} (h : blt b a = true) : (Op.bytesLess a b || decide (a = b)) = false := by
  have h1 : Op.bytesLess a b = false := blt_asymm h
  rw [h1, decide_eq_false (fun e => blt_ne h e.symm)]; rfl
theorem eP_eq (g : Bs) (t : List Int) : eP (g, t) = [.str g, .sl (rows eI t)] := rfl

theorem vClo_meets : Meets Try.prog 34 (Spec.pure vCloG) := by
 refine meets_fun (E_checkT.at_ 9) Try.func34 rfl rfl rfl ?_
 intro args p r hg hp
 unfold vCloG at hg
 split at hg
 ·rename_i p ns z
  simp only [Option.some.injEq, Prod.mk.injEq] at hg
  obtain ⟨rfl, rfl⟩ := hg
  obtain ⟨he, hl⟩ := hp
  generalize dI ns = l at *
  subst he
  have hT : (E_checkT).X = T := rfl
  have hx0 := And.intro @dI_rows (And.intro @outB.eq_1 @Try.results34)
  have hx := hx0
  refine ⟨by rfl, ?_⟩
  intro F W0 hnp hmk
  refine vc_seq_k fun N1 h1 => ?_
  refine u_reg ?_
  try refine lg_mk ?_
  refine u_mv ?_
  refine lg_nil ?_
  refine h1 _ ?_; clear h1; try clear N1
  refine vc_seq_k fun N2 h2 => ?_
  refine u_reg ?_
  try refine lg_mk ?_
  refine u_pt ?_
  refine u_ld ?_
  refine u_mv ?_
  have hc := call_rule (E := (E_checkT.at_ 9)) (f := 35) (sp := Spec.pure containsG) rfl
  have hs := @containsG.eq_1
  refine u_cp ?_
  refine u_un ?_
  refine u_mv ?_
  refine lg_nil ?_
  refine h2 _ ?_; clear h2; try clear N2
  refine vc_ret ?_
  try simp only [k_rules]
  refine fin2_ ?_
  exact cl_
 ·cases hg

def E_vClo : Env Try.prog := E_checkT.add 34 (Spec.pure vCloG) vClo_meets (by kernel_rfl)

theorem ixF_meets : Meets Try.prog 49 (Spec.pure ixFG) := by
 refine meets_fun (E_vClo.at_ 19) Try.func49 rfl rfl rfl ?_
 intro args p r hg hp
 unfold ixFG at hg
 split at hg
 ·rename_i xs ns z
  simp only [Option.some.injEq, Prod.mk.injEq] at hg
  obtain ⟨rfl, rfl⟩ := hg
  obtain ⟨he, hl, hf, hm⟩ := hp
  generalize dI xs = l at *
  generalize dI ns = ns at *
  subst he hf
  have hT : (E_vClo).X = T := rfl
  have hx0 := @Try.results49
  have hx := hx0
  refine ⟨by rfl, ?_⟩
  intro F W0 hnp hmk
  refine vc_seq_k fun N1 h1 => ?_
  refine u_reg ?_
  try refine lg_mk ?_
  refine u_mv ?_
  refine lg_nil ?_
  refine h1 _ ?_; clear h1; try clear N1
  refine vc_seq_k fun N2 h2 => ?_
  refine vc_seq_k fun N3 h3 => ?_
  refine u_reg ?_
  try refine lg_mk ?_
  refine u_mv ?_
  refine u_ln ?_
  refine u_mv ?_
  refine lg_nil ?_
  refine h3 _ ?_; clear h3; try clear N3
  refine vc_block ?_
  refine vc_loop_mk (σ := Nat) (fun s => (fun k => k ≤ l.length ∧ ∀ y ∈ l.take k, outB ns y = false) s)
   (fun s => (fun k => [(0, .d (.sl (rows eI l))), (1, .clo (.func 34) [.d (.ptr [.sl (rows eI ns), z])]), (6, .d (.sl (rows eI l))), (7, .d (.int .i64 (l.length : Nat))), (8, .d (.int .i64 (k : Nat)))]) s)
   (fun s => (fun k => []) s) (fun s => (fun k => l.length - k) s) hnp 0 ?_ [] ?_ ?_
  ·dsimp only
   simp
  ·dsimp only
   refine ⟨by rfl, ?_, ?_⟩
   ·refine fin_ ?_
    exact cl_
   ·refine fin_ ?_
    exact cl_
  ·rintro k hinv N4 h4
   dsimp only at hinv ⊢
   obtain ⟨k1, k2⟩ := hinv
   refine vc_seq_k fun N5 h5 => ?_
   refine u_reg ?_
   try refine lg_mk ?_
   refine u_bn ?_
   refine lg_nil ?_
   refine h5 _ ?_; clear h5; try clear N5
   refine vc_seq_k fun N6 h6 => ?_
   refine u_cond (fun hb7 => ?_) (fun hb7 => ?_)
   ·obtain ⟨x, hxe⟩ := getE (l := l) (i := k) (by omega)
    refine vc_skip ?_
    try simp only [k_rules]
    refine h6 _ ?_; clear h6; try clear N6
    refine vc_seq_k fun N8 h8 => ?_
    refine vc_block ?_
    refine vc_seq_k fun N9 h9 => ?_
    refine u_reg ?_
    try refine lg_mk ?_
    refine u_mv ?_
    refine u_mv ?_
    refine lg_nil ?_
    refine h9 _ ?_; clear h9; try clear N9
    refine vc_seq_k fun N10 h10 => ?_
    have hx := And.intro @hxe (And.intro @eI.eq_1 hx0)
    refine u_reg ?_
    try refine lg_mk ?_
    refine u_mv ?_
    refine u_mv ?_
    refine u_mv ?_
    refine u_pt ?_
    refine u_ld ?_
    have hc := (rfl : ((E_vClo.at_ 19)).Γ 34 = some (Spec.pure vCloG))
    have hs := (@vCloG.eq_1)
    refine u_kp (hq := by (first | (rw [dI_rows]; exact ⟨rfl, hm⟩) | exact sd_)) ?_
    refine lg_nil ?_
    have hx := hx0
    refine h10 _ ?_; clear h10; try clear N10
    refine u_cond (fun hb11 => ?_) (fun hb11 => ?_)
    ·have ht := hb11
     simp only [dI_rows] at ht
     refine vc_seq_k fun N12 h12 => ?_
     refine u_reg ?_
     try refine lg_mk ?_
     refine u_mv ?_
     refine u_mv ?_
     refine lg_nil ?_
     refine h12 _ ?_; clear h12; try clear N12
     refine vc_ret ?_
     try simp only [k_rules]
     rw [fidx_at hxe (by simpa using ht) k2]
     refine fin2_ ?_
     exact cl_
    ·have ht := hb11
     simp only [dI_rows] at ht
     refine vc_skip ?_
     try simp only [k_rules]
     refine h8 _ ?_; clear h8; try clear N8
     refine u_reg ?_
     try refine lg_mk ?_
     refine u_bn ?_
     refine u_mv ?_
     refine lg_nil ?_
     refine h4 _ ⟨k + 1, ?_, ?_, [], ?_⟩
     ·dsimp only
      exact ⟨by omega, all_false_snoc k2 hxe (by simpa using ht)⟩
     ·dsimp only
      omega
     ·dsimp only
      refine ⟨by rfl, ?_, ?_⟩
      ·refine fin_ ?_
       exact cl_
      ·refine fin_ ?_
       exact cl_
   ·refine vc_exit ?_
    simp only [k_rules, Nat.reduceEqDiff, reduceIte, eq_self]
    refine h2 _ ?_; clear h2; try clear N2
    refine vc_seq_k fun N13 h13 => ?_
    refine u_reg ?_
    try refine lg_mk ?_
    refine u_mv ?_
    refine lg_nil ?_
    refine h13 _ ?_; clear h13; try clear N13
    refine vc_ret ?_
    try simp only [k_rules]
    rw [fidx_none (by rw [List.take_of_length_le (by omega)] at k2; exact k2)]
    refine fin2_ ?_
    exact cl_
 ·cases hg

def E_ixF : Env Try.prog := E_vClo.add 49 (Spec.pure ixFG) ixF_meets (by kernel_rfl)

theorem conF_meets : Meets Try.prog 33 (Spec.pure conFG) := by
 refine meets_fun (E_ixF.at_ 9) Try.func33 rfl rfl rfl ?_
 intro args p r hg hp
 unfold conFG at hg
 split at hg
 ·rename_i xs ns z
  simp only [Option.some.injEq, Prod.mk.injEq] at hg
  obtain ⟨rfl, rfl⟩ := hg
  obtain ⟨he, hl, hf, hm⟩ := hp
  generalize dI xs = l at *
  generalize dI ns = ns at *
  subst he hf
  have hT : (E_ixF).X = T := rfl
  have hx0 := @Try.results33
  have hx := hx0
  refine ⟨by rfl, ?_⟩
  intro F W0 hnp hmk
  refine vc_seq_k fun N1 h1 => ?_
  refine u_reg ?_
  try refine lg_mk ?_
  refine u_mv ?_
  refine lg_nil ?_
  refine h1 _ ?_; clear h1; try clear N1
  refine vc_seq_k fun N2 h2 => ?_
  have hx := And.intro @dI_rows hx0
  refine u_reg ?_
  try refine lg_mk ?_
  refine u_mv ?_
  refine u_mv ?_
  have hc := call_rule (E := (E_ixF.at_ 9)) (f := 49) (sp := Spec.pure ixFG) rfl
  have hs := @ixFG.eq_1
  refine u_cp ?_
  refine u_bn ?_
  refine u_mv ?_
  refine lg_nil ?_
  have hx := hx0
  refine h2 _ ?_; clear h2; try clear N2
  refine vc_ret ?_
  try simp only [k_rules]
  rw [← fidx_any]
  refine fin2_ ?_
  exact cl_
 ·cases hg

def E_conF : Env Try.prog := E_ixF.add 33 (Spec.pure conFG) conF_meets (by kernel_rfl)

theorem valT_meets : Meets Try.prog 15 (Spec.pure valTG) := by
 refine meets_fun (E_conF.at_ 66) Try.func15 rfl rfl rfl ?_
 intro args p r hg hp
 unfold valTG at hg
 split at hg
 ·rename_i xs ps
  simp only [Option.some.injEq, Prod.mk.injEq] at hg
  obtain ⟨rfl, rfl⟩ := hg
  obtain ⟨he, hl, he2, hl2, hsm⟩ := hp
  generalize dI xs = l at *
  generalize dP ps = P at *
  subst he he2
  have hT : (E_conF).X = T := rfl
  have hx0 := And.intro @dec_t (And.intro @dec_f (And.intro @rect_eP (And.intro @eP_eq (And.intro @Bool.not_true (And.intro @Bool.not_false (And.intro @dI_rows @Try.results15))))))
  have hx := hx0
  refine ⟨by rfl, ?_⟩
  intro F W0 hnp hmk
  refine vc_seq_k fun N1 h1 => ?_
  refine u_reg ?_
  try refine lg_mk ?_
  refine u_bx ?_
  refine u_al ?_
  refine lg_nil ?_
  refine h1 _ ?_; clear h1; try clear N1
  refine vc_seq_k fun N2 h2 => ?_
  refine vc_seq_k fun N3 h3 => ?_
  refine u_reg ?_
  try refine lg_mk ?_
  refine u_pt ?_
  refine u_ld ?_
  have hc := call_rule (E := (E_conF.at_ 66)) (f := 31) (sp := Spec.pure checkTG) rfl
  have hs := @checkTG.eq_1
  refine u_cp ?_
  refine u_al ?_
  refine u_st ?_
  refine lg_nil ?_
  refine h3 _ ?_; clear h3; try clear N3
  refine vc_seq_k fun N4 h4 => ?_
  rcases txF_or l with htx | htx
  ·have hz1 : (txF l).1 = 0 := by rw [htx]
   have hz2 : (txF l).2 = 0 := by rw [htx]
   refine u_reg ?_
   try refine lg_mk ?_
   refine u_ld ?_
   refine u_bd ?_
   refine u_bn ?_
   refine lg_nil ?_
   refine h4 _ ?_; clear h4; try clear N4
   refine u_cond (fun hb5 => ?_) (fun hb5 => ?_)
   ·exact absurd (And.intro hz1 hz2) (by have := hb5; simpa using this)
   ·refine vc_skip ?_
    try simp only [k_rules]
    refine h2 _ ?_; clear h2; try clear N2
    refine vc_seq_k fun N6 h6 => ?_
    refine vc_seq_k fun N7 h7 => ?_
    refine u_reg ?_
    try refine lg_mk ?_
    refine u_pt ?_
    refine u_ld ?_
    refine u_ln ?_
    refine u_mv ?_
    refine lg_nil ?_
    refine h7 _ ?_; clear h7; try clear N7
    refine vc_block ?_
    refine vc_loop_mk (σ := Nat) (fun s => (fun i => i ≤ P.length ∧ ∀ j, j < i → pfT l P j = 0) s)
     (fun s => (fun i => [(1, .ptr 0 0 0), (2, .ptr 1 0 0), (15, .d (.sl (rows eP P))), (16, .d (.int .i64 (P.length : Nat))), (17, .d (.int .i64 (i : Nat)))]) s)
     (fun s => (fun i => [some (.one 27 [.d (.sl (rows eI l)), .d (.sl (rows eP P))]), some (.one 29 [.d (.int .i64 0), .d (.int .i64 0)])]) s) (fun s => (fun i => P.length - i) s) hnp 0 ?_ [some 0, some 1] ?_ ?_
    ·dsimp only
     exact ⟨by omega, fun j hj => by omega⟩
    ·dsimp only
     refine ⟨by rfl, ?_, ?_⟩
     ·refine fin_ ?_
      exact cl_
     ·refine fin_ ?_
      exact cl_
    ·rintro i hinv N8 h8
     dsimp only at hinv ⊢
     obtain ⟨i1, i2⟩ := hinv
     refine vc_seq_k fun N9 h9 => ?_
     refine u_reg ?_
     try refine lg_mk ?_
     refine u_bn ?_
     refine lg_nil ?_
     refine h9 _ ?_; clear h9; try clear N9
     refine vc_seq_k fun N10 h10 => ?_
     refine u_cond (fun hb11 => ?_) (fun hb11 => ?_)
     ·obtain ⟨p, hpe⟩ := getE (l := P) (i := i) (by omega)
      obtain ⟨g, t⟩ := p
      have hxe : P[i]? = some (g, t) := hpe
      have hxd : P.getD i ([], []) = (g, t) := getD_at hxe
      obtain ⟨hgl, htl⟩ := hsm _ (mem_at hxe)
      refine vc_skip ?_
      try simp only [k_rules]
      refine h10 _ ?_; clear h10; try clear N10
      refine vc_seq_k fun N12 h12 => ?_
      refine vc_block ?_
      refine vc_seq_k fun N13 h13 => ?_
      have hx := And.intro @hxe hx0
      refine u_reg ?_
      try refine lg_mk ?_
      refine u_mv ?_
      refine u_pt ?_
      refine u_ld ?_
      refine u_al ?_
      refine u_mv ?_
      refine u_st ?_
      refine lg_nil ?_
      have hx := hx0
      refine h13 _ ?_; clear h13; try clear N13
      refine vc_seq_k fun N14 h14 => ?_
      refine u_reg ?_
      try refine lg_mk ?_
      refine u_mv ?_
      refine lg_nil ?_
      refine h14 _ ?_; clear h14; try clear N14
      refine vc_seq_k fun N15 h15 => ?_
      refine vc_block ?_
      refine vc_seq_k fun N16 h16 => ?_
      refine u_reg ?_
      try refine lg_mk ?_
      refine u_pt ?_
      refine u_ld ?_
      refine u_ln ?_
      refine u_bn ?_
      refine u_mv ?_
      refine lg_nil ?_
      refine h16 _ ?_; clear h16; try clear N16
      refine u_cond (fun hb17 => ?_) (fun hb17 => ?_)
      ·refine u_reg ?_
       try refine lg_mk ?_
       refine u_mv ?_
       refine lg_nil ?_
       refine h15 _ ?_; clear h15; try clear N15
       refine vc_seq_k fun N18 h18 => ?_
       refine u_reg ?_
       try refine lg_mk ?_
       refine u_mv ?_
       refine u_bn ?_
       refine lg_nil ?_
       refine h18 _ ?_; clear h18; try clear N18
       refine u_cond (fun hb19 => ?_) (fun hb19 => ?_)
       ·refine vc_seq_k fun N20 h20 => ?_
        refine u_reg ?_
        try refine lg_mk ?_
        refine u_mv ?_
        refine u_mv ?_
        refine u_bd ?_
        refine u_st ?_
        refine lg_nil ?_
        refine h20 _ ?_; clear h20; try clear N20
        refine vc_ret ?_
        try simp only [k_rules]
        have hf : pfT l P i = 9 := by unfold pfT; rw [hxd, if_pos (by show g.length ≠ 3; have := hb17; omega)]
        have hr : valF l P = (9, (i : Int)) := by unfold valF; rw [if_neg (by rw [hz1]; simp), firstF_at (i := i) (by rw [hf]; decide) i2 (by omega), hf]
        rw [hr]
        refine fin2_ ?_
        exact cl_
       ·first | omega | exact absurd trivial hb19 | contradiction | (simp_all; done)
      ·refine vc_seq_k fun N21 h21 => ?_
       rcases five P i g t with hc5 | hc5 | hc5 | hc5 | hc5
       ·obtain ⟨hi0, hlt⟩ := hc5
        obtain ⟨q, hqe⟩ := getE (l := P) (i := i - 1) (by omega)
        obtain ⟨gy, ty⟩ := q
        have hye : P[i - 1]? = some (gy, ty) := hqe
        have hyd : P.getD (i - 1) ([], []) = (gy, ty) := getD_at hye
        have hpm : ((i : Int) - 1).toNat = i - 1 := by omega
        have hgt : decide ((0 : Int) < (i : Int)) = true := decide_eq_true (by omega)
        rw [hyd] at hlt
        have hle := le_of hlt
        have hln := hxe
        have hx := And.intro @hye (And.intro @hgt (And.intro @hpm (And.intro @hle (And.intro @hln hx0))))
        refine u_reg ?_
        try refine lg_mk ?_
        refine u_mv ?_
        refine u_bn ?_
        refine u_mv ?_
        refine g_pt ?_
        refine g_ld ?_
        refine g_pt ?_
        refine g_ld ?_
        refine g_mv ?_
        refine g_bn ?_
        refine g_pt ?_
        refine g_pt ?_
        refine g_ld ?_
        refine g_bn ?_
        refine u_pk ?_
        refine u_mv ?_
        refine g_pt ?_
        refine g_ld ?_
        refine g_ln ?_
        refine g_bn ?_
        refine u_pk ?_
        refine u_mv ?_
        refine g_pt ?_
        refine g_ld ?_
        have hc := call_rule (E := (E_conF.at_ 66)) (f := 32) (sp := Spec.pure incTG) rfl
        have hs := @incTG.eq_1
        refine g_cp ?_
        refine g_un ?_
        refine u_pk ?_
        refine u_mv ?_
        refine lg_nil ?_
        have hx := hx0
        refine h21 _ ?_; clear h21; try clear N21
        refine u_cond (fun hb22 => ?_) (fun hb22 => ?_)
        ·refine u_reg ?_
         try refine lg_mk ?_
         refine u_mv ?_
         refine lg_nil ?_
         refine h15 _ ?_; clear h15; try clear N15
         refine vc_seq_k fun N23 h23 => ?_
         refine u_reg ?_
         try refine lg_mk ?_
         refine u_mv ?_
         refine u_bn ?_
         refine lg_nil ?_
         refine h23 _ ?_; clear h23; try clear N23
         refine u_cond (fun hb24 => ?_) (fun hb24 => ?_)
         ·refine vc_seq_k fun N25 h25 => ?_
          refine u_reg ?_
          try refine lg_mk ?_
          refine u_mv ?_
          refine u_mv ?_
          refine u_bd ?_
          refine u_st ?_
          refine lg_nil ?_
          refine h25 _ ?_; clear h25; try clear N25
          refine vc_ret ?_
          try simp only [k_rules]
          have hg3 : g.length = 3 := by have := hb17; omega
          have hf : pfT l P i = 5 := by unfold pfT; rw [hxd, if_neg (by show ¬ g.length ≠ 3; omega), if_pos (by first | exact Or.inl ⟨hi0, by rw [hyd]; exact hlt⟩ | exact Or.inr (Or.inl rfl) | exact Or.inr (Or.inr (by have := hb22; simpa using this)))]
          have hr : valF l P = (5, (i : Int)) := by unfold valF; rw [if_neg (by rw [hz1]; simp), firstF_at (i := i) (by rw [hf]; decide) i2 (by omega), hf]
          rw [hr]
          refine fin2_ ?_
          exact cl_
         ·first | omega | exact absurd trivial hb24 | contradiction | (simp_all; done)
        ·first | omega | exact absurd trivial hb22 | contradiction | (simp_all; done)
       ·obtain ⟨hi0, hte⟩ := hc5
        have hgt : decide ((0 : Int) < (i : Int)) = false := decide_eq_false (by omega)
        have hye := hxe
        have hpm := hxe
        have hle := hxe
        subst hte
        have hln : decide ((([] : List Int).length : Int) = 0) = true := rfl
        have hln2 := hxe
        have hx := And.intro @hye (And.intro @hgt (And.intro @hpm (And.intro @hle (And.intro @hln hx0))))
        refine u_reg ?_
        try refine lg_mk ?_
        refine u_mv ?_
        refine u_bn ?_
        refine u_mv ?_
        refine g_pt ?_
        refine g_ld ?_
        refine g_pt ?_
        refine g_ld ?_
        refine g_mv ?_
        refine g_bn ?_
        refine g_pt ?_
        refine g_pt ?_
        refine g_ld ?_
        refine g_bn ?_
        refine u_pk ?_
        refine u_mv ?_
        refine g_pt ?_
        refine g_ld ?_
        refine g_ln ?_
        refine g_bn ?_
        refine u_pk ?_
        refine u_mv ?_
        refine g_pt ?_
        refine g_ld ?_
        have hc := call_rule (E := (E_conF.at_ 66)) (f := 32) (sp := Spec.pure incTG) rfl
        have hs := @incTG.eq_1
        refine g_cp ?_
        refine g_un ?_
        refine u_pk ?_
        refine u_mv ?_
        refine lg_nil ?_
        have hx := hx0
        refine h21 _ ?_; clear h21; try clear N21
        refine u_cond (fun hb26 => ?_) (fun hb26 => ?_)
        ·refine u_reg ?_
         try refine lg_mk ?_
         refine u_mv ?_
         refine lg_nil ?_
         refine h15 _ ?_; clear h15; try clear N15
         refine vc_seq_k fun N27 h27 => ?_
         refine u_reg ?_
         try refine lg_mk ?_
         refine u_mv ?_
         refine u_bn ?_
         refine lg_nil ?_
         refine h27 _ ?_; clear h27; try clear N27
         refine u_cond (fun hb28 => ?_) (fun hb28 => ?_)
         ·refine vc_seq_k fun N29 h29 => ?_
          refine u_reg ?_
          try refine lg_mk ?_
          refine u_mv ?_
          refine u_mv ?_
          refine u_bd ?_
          refine u_st ?_
          refine lg_nil ?_
          refine h29 _ ?_; clear h29; try clear N29
          refine vc_ret ?_
          try simp only [k_rules]
          have hg3 : g.length = 3 := by have := hb17; omega
          have hf : pfT l P i = 5 := by unfold pfT; rw [hxd, if_neg (by show ¬ g.length ≠ 3; omega), if_pos (by first | exact Or.inl ⟨hi0, by rw [hyd]; exact hlt⟩ | exact Or.inr (Or.inl rfl) | exact Or.inr (Or.inr (by have := hb26; simpa using this)))]
          have hr : valF l P = (5, (i : Int)) := by unfold valF; rw [if_neg (by rw [hz1]; simp), firstF_at (i := i) (by rw [hf]; decide) i2 (by omega), hf]
          rw [hr]
          refine fin2_ ?_
          exact cl_
         ·first | omega | exact absurd trivial hb28 | contradiction | (simp_all; done)
        ·first | omega | exact absurd trivial hb26 | contradiction | (simp_all; done)
       ·obtain ⟨hi0, hte⟩ := hc5
        have hgt : decide ((0 : Int) < (i : Int)) = false := decide_eq_false (by omega)
        have hye := hxe
        have hpm := hxe
        have hle := hxe
        have hln : decide ((t.length : Int) = 0) = false := decide_eq_false (fun h => hte (List.eq_nil_of_length_eq_zero (by omega)))
        have hln2 := hxe
        have hx := And.intro @hye (And.intro @hgt (And.intro @hpm (And.intro @hle (And.intro @hln hx0))))
        refine u_reg ?_
        try refine lg_mk ?_
        refine u_mv ?_
        refine u_bn ?_
        refine u_mv ?_
        refine g_pt ?_
        refine g_ld ?_
        refine g_pt ?_
        refine g_ld ?_
        refine g_mv ?_
        refine g_bn ?_
        refine g_pt ?_
        refine g_pt ?_
        refine g_ld ?_
        refine g_bn ?_
        refine u_pk ?_
        refine u_mv ?_
        refine g_pt ?_
        refine g_ld ?_
        refine g_ln ?_
        refine g_bn ?_
        refine u_pk ?_
        refine u_mv ?_
        refine g_pt ?_
        refine g_ld ?_
        have hc := call_rule (E := (E_conF.at_ 66)) (f := 32) (sp := Spec.pure incTG) rfl
        have hs := @incTG.eq_1
        refine g_cp ?_
        refine g_un ?_
        refine u_pk ?_
        refine u_mv ?_
        refine lg_nil ?_
        have hx := hx0
        refine h21 _ ?_; clear h21; try clear N21
        refine u_cond (fun hb30 => ?_) (fun hb30 => ?_)
        ·refine u_reg ?_
         try refine lg_mk ?_
         refine u_mv ?_
         refine lg_nil ?_
         refine h15 _ ?_; clear h15; try clear N15
         refine vc_seq_k fun N31 h31 => ?_
         refine u_reg ?_
         try refine lg_mk ?_
         refine u_mv ?_
         refine u_bn ?_
         refine lg_nil ?_
         refine h31 _ ?_; clear h31; try clear N31
         refine u_cond (fun hb32 => ?_) (fun hb32 => ?_)
         ·refine vc_seq_k fun N33 h33 => ?_
          refine u_reg ?_
          try refine lg_mk ?_
          refine u_mv ?_
          refine u_mv ?_
          refine u_bd ?_
          refine u_st ?_
          refine lg_nil ?_
          refine h33 _ ?_; clear h33; try clear N33
          refine vc_ret ?_
          try simp only [k_rules]
          have hg3 : g.length = 3 := by have := hb17; omega
          have hf : pfT l P i = 5 := by unfold pfT; rw [hxd, if_neg (by show ¬ g.length ≠ 3; omega), if_pos (by first | exact Or.inl ⟨hi0, by rw [hyd]; exact hlt⟩ | exact Or.inr (Or.inl rfl) | exact Or.inr (Or.inr (by have := hb30; simpa using this)))]
          have hr : valF l P = (5, (i : Int)) := by unfold valF; rw [if_neg (by rw [hz1]; simp), firstF_at (i := i) (by rw [hf]; decide) i2 (by omega), hf]
          rw [hr]
          refine fin2_ ?_
          exact cl_
         ·first | omega | exact absurd trivial hb32 | contradiction | (simp_all; done)
        ·refine vc_seq_k fun N34 h34 => ?_
         have hx := And.intro @dI_rows hx0
         refine u_reg ?_
         try refine lg_mk ?_
         refine u_pt ?_
         refine u_ld ?_
         refine u_mf ?_
         have hc := call_rule (E := (E_conF.at_ 66)) (f := 33) (sp := Spec.pure conFG) rfl
         have hs := @conFG.eq_1
         refine u_cp ?_
         refine u_mv ?_
         refine lg_nil ?_
         have hx := hx0
         refine h34 _ ?_; clear h34; try clear N34
         refine u_cond (fun hb35 => ?_) (fun hb35 => ?_)
         ·refine u_reg ?_
          try refine lg_mk ?_
          refine u_mv ?_
          refine lg_nil ?_
          refine h15 _ ?_; clear h15; try clear N15
          refine vc_seq_k fun N36 h36 => ?_
          refine u_reg ?_
          try refine lg_mk ?_
          refine u_mv ?_
          refine u_bn ?_
          refine lg_nil ?_
          refine h36 _ ?_; clear h36; try clear N36
          refine u_cond (fun hb37 => ?_) (fun hb37 => ?_)
          ·refine vc_seq_k fun N38 h38 => ?_
           refine u_reg ?_
           try refine lg_mk ?_
           refine u_mv ?_
           refine u_mv ?_
           refine u_bd ?_
           refine u_st ?_
           refine lg_nil ?_
           refine h38 _ ?_; clear h38; try clear N38
           refine vc_ret ?_
           try simp only [k_rules]
           have hg3 : g.length = 3 := by have := hb17; omega
           have h5 : ¬ ((0 < i ∧ blt (P.getD (i - 1) ([], [])).1 g = false) ∨ t = [] ∨ incB t = false) := by
            have hinc : incB t = true := by have := hb30; simpa using this
            rintro (⟨h1, h2⟩ | h | h)
            ·first | omega | (rw [hyd] at h2; rw [hlt] at h2; cases h2)
            ·exact hte h
            ·rw [hinc] at h; cases h
           have hf : pfT l P i = 6 := by unfold pfT; rw [hxd, if_neg (by show ¬ g.length ≠ 3; omega), if_neg h5, if_pos (by have := hb35; simpa using this)]
           have hr : valF l P = (6, (i : Int)) := by unfold valF; rw [if_neg (by rw [hz1]; simp), firstF_at (i := i) (by rw [hf]; decide) i2 (by omega), hf]
           rw [hr]
           refine fin2_ ?_
           exact cl_
          ·first | omega | exact absurd trivial hb37 | contradiction | (simp_all; done)
         ·refine vc_skip ?_
          try simp only [k_rules]
          refine h15 _ ?_; clear h15; try clear N15
          refine vc_seq_k fun N39 h39 => ?_
          refine u_reg ?_
          try refine lg_mk ?_
          refine u_mv ?_
          refine u_bn ?_
          refine lg_nil ?_
          refine h39 _ ?_; clear h39; try clear N39
          refine u_cond (fun hb40 => ?_) (fun hb40 => ?_)
          ·first | omega | exact absurd trivial hb40 | contradiction | (simp_all; done)
          ·refine vc_skip ?_
           try simp only [k_rules]
           refine h12 _ ?_; clear h12; try clear N12
           refine u_reg ?_
           try refine lg_mk ?_
           refine u_bn ?_
           refine u_mv ?_
           refine lg_nil ?_
           have hg3 : g.length = 3 := by have := hb17; omega
           have h5 : ¬ ((0 < i ∧ blt (P.getD (i - 1) ([], [])).1 g = false) ∨ t = [] ∨ incB t = false) := by
            have hinc : incB t = true := by have := hb30; simpa using this
            rintro (⟨h1, h2⟩ | h | h)
            ·first | omega | (rw [hyd] at h2; rw [hlt] at h2; cases h2)
            ·exact hte h
            ·rw [hinc] at h; cases h
           have hf : pfT l P i = 0 := by unfold pfT; rw [hxd, if_neg (by show ¬ g.length ≠ 3; omega), if_neg h5, if_neg (by have := hb35; simpa using this)]
           refine h8 _ ⟨i + 1, ?_, ?_, [some 0, some 1], ?_⟩
           ·dsimp only
            exact ⟨by omega, lt_succF i2 hf⟩
           ·dsimp only
            omega
           ·dsimp only
            refine ⟨by rfl, ?_, ?_⟩
            ·refine fin_ ?_
             exact cl_
            ·refine fin_ ?_
             exact cl_
       ·obtain ⟨hi0, hlt, hte⟩ := hc5
        obtain ⟨q, hqe⟩ := getE (l := P) (i := i - 1) (by omega)
        obtain ⟨gy, ty⟩ := q
        have hye : P[i - 1]? = some (gy, ty) := hqe
        have hyd : P.getD (i - 1) ([], []) = (gy, ty) := getD_at hye
        have hpm : ((i : Int) - 1).toNat = i - 1 := by omega
        have hgt : decide ((0 : Int) < (i : Int)) = true := decide_eq_true (by omega)
        rw [hyd] at hlt
        have hle := not_le_of hlt
        subst hte
        have hln : decide ((([] : List Int).length : Int) = 0) = true := rfl
        have hln2 := hxe
        have hx := And.intro @hye (And.intro @hgt (And.intro @hpm (And.intro @hle (And.intro @hln hx0))))
        refine u_reg ?_
        try refine lg_mk ?_
        refine u_mv ?_
        refine u_bn ?_
        refine u_mv ?_
        refine g_pt ?_
        refine g_ld ?_
        refine g_pt ?_
        refine g_ld ?_
        refine g_mv ?_
        refine g_bn ?_
        refine g_pt ?_
        refine g_pt ?_
        refine g_ld ?_
        refine g_bn ?_
        refine u_pk ?_
        refine u_mv ?_
        refine g_pt ?_
        refine g_ld ?_
        refine g_ln ?_
        refine g_bn ?_
        refine u_pk ?_
        refine u_mv ?_
        refine g_pt ?_
        refine g_ld ?_
        have hc := call_rule (E := (E_conF.at_ 66)) (f := 32) (sp := Spec.pure incTG) rfl
        have hs := @incTG.eq_1
        refine g_cp ?_
        refine g_un ?_
        refine u_pk ?_
        refine u_mv ?_
        refine lg_nil ?_
        have hx := hx0
        refine h21 _ ?_; clear h21; try clear N21
        refine u_cond (fun hb41 => ?_) (fun hb41 => ?_)
        ·refine u_reg ?_
         try refine lg_mk ?_
         refine u_mv ?_
         refine lg_nil ?_
         refine h15 _ ?_; clear h15; try clear N15
         refine vc_seq_k fun N42 h42 => ?_
         refine u_reg ?_
         try refine lg_mk ?_
         refine u_mv ?_
         refine u_bn ?_
         refine lg_nil ?_
         refine h42 _ ?_; clear h42; try clear N42
         refine u_cond (fun hb43 => ?_) (fun hb43 => ?_)
         ·refine vc_seq_k fun N44 h44 => ?_
          refine u_reg ?_
          try refine lg_mk ?_
          refine u_mv ?_
          refine u_mv ?_
          refine u_bd ?_
          refine u_st ?_
          refine lg_nil ?_
          refine h44 _ ?_; clear h44; try clear N44
          refine vc_ret ?_
          try simp only [k_rules]
          have hg3 : g.length = 3 := by have := hb17; omega
          have hf : pfT l P i = 5 := by unfold pfT; rw [hxd, if_neg (by show ¬ g.length ≠ 3; omega), if_pos (by first | exact Or.inl ⟨hi0, by rw [hyd]; exact hlt⟩ | exact Or.inr (Or.inl rfl) | exact Or.inr (Or.inr (by have := hb41; simpa using this)))]
          have hr : valF l P = (5, (i : Int)) := by unfold valF; rw [if_neg (by rw [hz1]; simp), firstF_at (i := i) (by rw [hf]; decide) i2 (by omega), hf]
          rw [hr]
          refine fin2_ ?_
          exact cl_
         ·first | omega | exact absurd trivial hb43 | contradiction | (simp_all; done)
        ·first | omega | exact absurd trivial hb41 | contradiction | (simp_all; done)
       ·obtain ⟨hi0, hlt, hte⟩ := hc5
        obtain ⟨q, hqe⟩ := getE (l := P) (i := i - 1) (by omega)
        obtain ⟨gy, ty⟩ := q
        have hye : P[i - 1]? = some (gy, ty) := hqe
        have hyd : P.getD (i - 1) ([], []) = (gy, ty) := getD_at hye
        have hpm : ((i : Int) - 1).toNat = i - 1 := by omega
        have hgt : decide ((0 : Int) < (i : Int)) = true := decide_eq_true (by omega)
        rw [hyd] at hlt
        have hle := not_le_of hlt
        have hln : decide ((t.length : Int) = 0) = false := decide_eq_false (fun h => hte (List.eq_nil_of_length_eq_zero (by omega)))
        have hln2 := hxe
        have hx := And.intro @hye (And.intro @hgt (And.intro @hpm (And.intro @hle (And.intro @hln hx0))))
        refine u_reg ?_
        try refine lg_mk ?_
        refine u_mv ?_
        refine u_bn ?_
        refine u_mv ?_
        refine g_pt ?_
        refine g_ld ?_
        refine g_pt ?_
        refine g_ld ?_
        refine g_mv ?_
        refine g_bn ?_
        refine g_pt ?_
        refine g_pt ?_
        refine g_ld ?_
        refine g_bn ?_
        refine u_pk ?_
        refine u_mv ?_
        refine g_pt ?_
        refine g_ld ?_
        refine g_ln ?_
        refine g_bn ?_
        refine u_pk ?_
        refine u_mv ?_
        refine g_pt ?_
        refine g_ld ?_
        have hc := call_rule (E := (E_conF.at_ 66)) (f := 32) (sp := Spec.pure incTG) rfl
        have hs := @incTG.eq_1
        refine g_cp ?_
        refine g_un ?_
        refine u_pk ?_
        refine u_mv ?_
        refine lg_nil ?_
        have hx := hx0
        refine h21 _ ?_; clear h21; try clear N21
        refine u_cond (fun hb45 => ?_) (fun hb45 => ?_)
        ·refine u_reg ?_
         try refine lg_mk ?_
         refine u_mv ?_
         refine lg_nil ?_
         refine h15 _ ?_; clear h15; try clear N15
         refine vc_seq_k fun N46 h46 => ?_
         refine u_reg ?_
         try refine lg_mk ?_
         refine u_mv ?_
         refine u_bn ?_
         refine lg_nil ?_
         refine h46 _ ?_; clear h46; try clear N46
         refine u_cond (fun hb47 => ?_) (fun hb47 => ?_)
         ·refine vc_seq_k fun N48 h48 => ?_
          refine u_reg ?_
          try refine lg_mk ?_
          refine u_mv ?_
          refine u_mv ?_
          refine u_bd ?_
          refine u_st ?_
          refine lg_nil ?_
          refine h48 _ ?_; clear h48; try clear N48
          refine vc_ret ?_
          try simp only [k_rules]
          have hg3 : g.length = 3 := by have := hb17; omega
          have hf : pfT l P i = 5 := by unfold pfT; rw [hxd, if_neg (by show ¬ g.length ≠ 3; omega), if_pos (by first | exact Or.inl ⟨hi0, by rw [hyd]; exact hlt⟩ | exact Or.inr (Or.inl rfl) | exact Or.inr (Or.inr (by have := hb45; simpa using this)))]
          have hr : valF l P = (5, (i : Int)) := by unfold valF; rw [if_neg (by rw [hz1]; simp), firstF_at (i := i) (by rw [hf]; decide) i2 (by omega), hf]
          rw [hr]
          refine fin2_ ?_
          exact cl_
         ·first | omega | exact absurd trivial hb47 | contradiction | (simp_all; done)
        ·refine vc_seq_k fun N49 h49 => ?_
         have hx := And.intro @dI_rows hx0
         refine u_reg ?_
         try refine lg_mk ?_
         refine u_pt ?_
         refine u_ld ?_
         refine u_mf ?_
         have hc := call_rule (E := (E_conF.at_ 66)) (f := 33) (sp := Spec.pure conFG) rfl
         have hs := @conFG.eq_1
         refine u_cp ?_
         refine u_mv ?_
         refine lg_nil ?_
         have hx := hx0
         refine h49 _ ?_; clear h49; try clear N49
         refine u_cond (fun hb50 => ?_) (fun hb50 => ?_)
         ·refine u_reg ?_
          try refine lg_mk ?_
          refine u_mv ?_
          refine lg_nil ?_
          refine h15 _ ?_; clear h15; try clear N15
          refine vc_seq_k fun N51 h51 => ?_
          refine u_reg ?_
          try refine lg_mk ?_
          refine u_mv ?_
          refine u_bn ?_
          refine lg_nil ?_
          refine h51 _ ?_; clear h51; try clear N51
          refine u_cond (fun hb52 => ?_) (fun hb52 => ?_)
          ·refine vc_seq_k fun N53 h53 => ?_
           refine u_reg ?_
           try refine lg_mk ?_
           refine u_mv ?_
           refine u_mv ?_
           refine u_bd ?_
           refine u_st ?_
           refine lg_nil ?_
           refine h53 _ ?_; clear h53; try clear N53
           refine vc_ret ?_
           try simp only [k_rules]
           have hg3 : g.length = 3 := by have := hb17; omega
           have h5 : ¬ ((0 < i ∧ blt (P.getD (i - 1) ([], [])).1 g = false) ∨ t = [] ∨ incB t = false) := by
            have hinc : incB t = true := by have := hb45; simpa using this
            rintro (⟨h1, h2⟩ | h | h)
            ·first | omega | (rw [hyd] at h2; rw [hlt] at h2; cases h2)
            ·exact hte h
            ·rw [hinc] at h; cases h
           have hf : pfT l P i = 6 := by unfold pfT; rw [hxd, if_neg (by show ¬ g.length ≠ 3; omega), if_neg h5, if_pos (by have := hb50; simpa using this)]
           have hr : valF l P = (6, (i : Int)) := by unfold valF; rw [if_neg (by rw [hz1]; simp), firstF_at (i := i) (by rw [hf]; decide) i2 (by omega), hf]
           rw [hr]
           refine fin2_ ?_
           exact cl_
          ·first | omega | exact absurd trivial hb52 | contradiction | (simp_all; done)
         ·refine vc_skip ?_
          try simp only [k_rules]
          refine h15 _ ?_; clear h15; try clear N15
          refine vc_seq_k fun N54 h54 => ?_
          refine u_reg ?_
          try refine lg_mk ?_
          refine u_mv ?_
          refine u_bn ?_
          refine lg_nil ?_
          refine h54 _ ?_; clear h54; try clear N54
          refine u_cond (fun hb55 => ?_) (fun hb55 => ?_)
          ·first | omega | exact absurd trivial hb55 | contradiction | (simp_all; done)
          ·refine vc_skip ?_
           try simp only [k_rules]
           refine h12 _ ?_; clear h12; try clear N12
           refine u_reg ?_
           try refine lg_mk ?_
           refine u_bn ?_
           refine u_mv ?_
           refine lg_nil ?_
           have hg3 : g.length = 3 := by have := hb17; omega
           have h5 : ¬ ((0 < i ∧ blt (P.getD (i - 1) ([], [])).1 g = false) ∨ t = [] ∨ incB t = false) := by
            have hinc : incB t = true := by have := hb45; simpa using this
            rintro (⟨h1, h2⟩ | h | h)
            ·first | omega | (rw [hyd] at h2; rw [hlt] at h2; cases h2)
            ·exact hte h
            ·rw [hinc] at h; cases h
           have hf : pfT l P i = 0 := by unfold pfT; rw [hxd, if_neg (by show ¬ g.length ≠ 3; omega), if_neg h5, if_neg (by have := hb50; simpa using this)]
           refine h8 _ ⟨i + 1, ?_, ?_, [some 0, some 1], ?_⟩
           ·dsimp only
            exact ⟨by omega, lt_succF i2 hf⟩
           ·dsimp only
            omega
           ·dsimp only
            refine ⟨by rfl, ?_, ?_⟩
            ·refine fin_ ?_
             exact cl_
            ·refine fin_ ?_
             exact cl_
     ·refine vc_exit ?_
      simp only [k_rules, Nat.reduceEqDiff, reduceIte, eq_self]
      refine h6 _ ?_; clear h6; try clear N6
      refine vc_seq_k fun N56 h56 => ?_
      refine u_reg ?_
      try refine lg_mk ?_
      refine u_bd ?_
      refine u_st ?_
      refine lg_nil ?_
      refine h56 _ ?_; clear h56; try clear N56
      refine vc_ret ?_
      try simp only [k_rules]
      have hr : valF l P = (0, 0) := by unfold valF; rw [if_neg (by rw [hz1]; simp), firstF_none (fun j hj => i2 j (by omega))]
      rw [hr]
      refine fin2_ ?_
      exact cl_
  ·have hz1 := htx
   have hz2 := htx
   refine u_reg ?_
   try refine lg_mk ?_
   refine u_ld ?_
   refine u_bd ?_
   refine u_bn ?_
   refine lg_nil ?_
   refine h4 _ ?_; clear h4; try clear N4
   refine u_cond (fun hb57 => ?_) (fun hb57 => ?_)
   ·refine vc_seq_k fun N58 h58 => ?_
    refine u_reg ?_
    try refine lg_mk ?_
    refine u_ld ?_
    refine u_st ?_
    refine lg_nil ?_
    refine h58 _ ?_; clear h58; try clear N58
    refine vc_ret ?_
    try simp only [k_rules]
    have hr : valF l P = txF l := by unfold valF; rw [if_pos hz1]
    rw [hr]
    refine fin2_ ?_
    exact cl_
   ·exact absurd (show (txF l).1 = 0 by have := hb57; first | exact this.1 | exact (Classical.not_not.1 this).1 | (simp at this; exact this.1)) hz1
 ·cases hg

def E_valT : Env Try.prog := E_conF.add 15 (Spec.pure valTG) valT_meets (by kernel_rfl)
end Go.Proofs.Ytjdhadbnmghdgaa
