/- Walks, printed by wip/gen/walk.py. -/
import Derived.Test.YtjdhadbnmghdgaaT8
import Derived.Test.YtjdhadbnmghdgaaV5
set_option linter.all false
set_option maxRecDepth 100000
set_option maxHeartbeats 4000000
namespace Go.Proofs.Ytjdhadbnmghdgaa
open Go Go.Vc Go.RowKit
/-- The first fault among the first n places. -/
def firstF (f g : Nat → Int) : Nat → Int × Int
  | 0 => (0, 0)
  | n + 1 => if (firstF f g n).1 ≠ 0 then firstF f g n else if f n ≠ 0 then (f n, g n) else (0, 0)
theorem firstF_none {f g : Nat → Int} : ∀ {n : Nat}, (∀ j, j < n → f j = 0) → firstF f g n = (0, 0)
  | 0, _ => rfl
  | n + 1, h => by
    have ih := firstF_none (g := g) (n := n) fun j hj => h j (by omega)
    unfold firstF; rw [ih, h n (by omega)]; rfl
theorem firstF_at {f g : Nat → Int} {i : Nat} (hi : f i ≠ 0) (h : ∀ j, j < i → f j = 0) : ∀ {n : Nat}, i < n → firstF f g n = (f i, g i) := by
  intro n
  induction n with
  | zero => intro h; omega
  | succ n ih =>
    intro hn
    unfold firstF
    rcases Nat.lt_or_ge i n with hlt | hge
    · rw [ih hlt, if_pos hi]
    · obtain rfl : i = n := by omega
      rw [firstF_none h]
      simp [hi]
theorem lt_succF {f : Nat → Int} {i : Nat} (h : ∀ j, j < i → f j = 0) (hi : f i = 0) : ∀ j, j < i + 1 → f j = 0 := fun j hj => by
  rcases Nat.lt_or_ge j i with h' | h'
  · exact h j h'
  · obtain rfl : j = i := by omega
    exact hi
theorem lt_succ2 {Q : Nat → Prop} {i : Nat} (h : ∀ j, j < i → 0 < j → Q j) (hi : 0 < i → Q i) : ∀ j, j < i + 1 → 0 < j → Q j := fun j hj h0 => by
  rcases Nat.lt_or_ge j i with h' | h'
  · exact h j h' h0
  · obtain rfl : j = i := by omega
    exact hi h0
/-- The fault of the numbers of texts. -/
def tf (l : List Int) (i : Nat) : Int := if l.getD i 0 < 0 ∨ 20 ≤ l.getD i 0 then 3 else if 0 < i ∧ l.getD i 0 ≤ l.getD (i - 1) 0 then 5 else 0
def tg (i : Nat) : Int := -2 - (i : Int)
def txF (l : List Int) : Int × Int := if 20 < l.length then (2, -1) else firstF (tf l) tg l.length
def checkTG : List AV → Option (Prop × AV)
  | [.d (.sl xs)] => some (xs = rows eI (dI xs) ∧ (dI xs).length ≤ 9223372036854775807, .agg [.d (.int .i64 (txF (dI xs)).1), .d (.int .i64 (txF (dI xs)).2)])
  | _ => none
def incB (l : List Int) : Bool := (List.range l.length).all fun i => i == 0 || decide (l.getD (i - 1) 0 < l.getD i 0)
theorem incB_no {l : List Int} {i : Nat} (h0 : 0 < i) (hi : i < l.length) (h : ¬ l.getD (i - 1) 0 < l.getD i 0) : incB l = false := by
  unfold incB
  rw [Bool.eq_false_iff]; intro ha
  have := List.all_eq_true.1 ha i (List.mem_range.2 hi)
  simp only [Bool.or_eq_true, beq_iff_eq, decide_eq_true_eq] at this
  rcases this with h | h'
  · omega
  · exact h h'
theorem incB_yes {l : List Int} (h : ∀ j, j < l.length → 0 < j → l.getD (j - 1) 0 < l.getD j 0) : incB l = true := by
  unfold incB
  rw [List.all_eq_true]
  intro i hi
  simp only [Bool.or_eq_true, beq_iff_eq, decide_eq_true_eq]
  rcases Nat.eq_zero_or_pos i with h0 | h0
  · exact .inl h0
  · exact .inr (h i (List.mem_range.1 hi) h0)
def incTG : List AV → Option (Prop × AV)
  | [.d (.sl xs)] => some (xs = rows eI (dI xs) ∧ (dI xs).length ≤ 9223372036854775807, .d (.bool (incB (dI xs))))
  | _ => none
theorem getD_at {α : Type} {l : List α} {i : Nat} {x d : α} (h : l[i]? = some x) : l.getD i d = x := by rw [List.getD_eq_getElem?_getD, h]; rfl

theorem incT_meets : Meets Try.prog 32 (Spec.pure incTG) := by
 refine meets_fun (E_indexT.at_ 24) Try.func32 rfl rfl rfl ?_
 intro args p r hg hp
 unfold incTG at hg
 split at hg
 ·rename_i xs
  simp only [Option.some.injEq, Prod.mk.injEq] at hg
  obtain ⟨rfl, rfl⟩ := hg
  obtain ⟨he, hl⟩ := hp
  generalize dI xs = l at *
  subst he
  have hT : (E_indexT).X = T := rfl
  have hx0 := And.intro @dec_t (And.intro @dec_f @Try.results32)
  have hx := hx0
  refine ⟨by rfl, ?_⟩
  intro F W0 hnp hmk
  refine vc_seq_k fun N1 h1 => ?_
  refine u_reg ?_
  try refine lg_mk ?_
  refine u_mv ?_
  refine lg_nil ?_
  refine h1 _ ?_; clear h1; try clear N1
  refine vc_seq_k fun N2 h2 => ?_
  refine vc_seq_k fun N3 h3 => ?_
  refine u_reg ?_
  try refine lg_mk ?_
  refine u_mv ?_
  refine u_ln ?_
  refine u_mv ?_
  refine lg_nil ?_
  refine h3 _ ?_; clear h3; try clear N3
  refine vc_block ?_
  refine vc_loop_mk (σ := Nat) (fun s => (fun i => i ≤ l.length ∧ ∀ j, j < i → 0 < j → l.getD (j - 1) 0 < l.getD j 0) s)
   (fun s => (fun i => [(0, .d (.sl (rows eI l))), (4, .d (.sl (rows eI l))), (5, .d (.int .i64 (l.length : Nat))), (6, .d (.int .i64 (i : Nat)))]) s)
   (fun s => (fun i => []) s) (fun s => (fun i => l.length - i) s) hnp 0 ?_ [] ?_ ?_
  ·dsimp only
   exact ⟨by omega, fun j hj => by omega⟩
  ·dsimp only
   refine ⟨by rfl, ?_, ?_⟩
   ·refine fin_ ?_
    exact cl_
   ·refine fin_ ?_
    exact cl_
  ·rintro i hinv N4 h4
   dsimp only at hinv ⊢
   obtain ⟨i1, i2⟩ := hinv
   refine vc_seq_k fun N5 h5 => ?_
   refine u_reg ?_
   try refine lg_mk ?_
   refine u_bn ?_
   refine lg_nil ?_
   refine h5 _ ?_; clear h5; try clear N5
   refine vc_seq_k fun N6 h6 => ?_
   refine u_cond (fun hb7 => ?_) (fun hb7 => ?_)
   ·obtain ⟨x, hxe⟩ := getE (l := l) (i := i) (by omega)
    have hxd : l.getD i 0 = x := getD_at hxe
    refine vc_skip ?_
    try simp only [k_rules]
    refine h6 _ ?_; clear h6; try clear N6
    refine vc_seq_k fun N8 h8 => ?_
    refine vc_block ?_
    refine vc_seq_k fun N9 h9 => ?_
    refine u_reg ?_
    try refine lg_mk ?_
    refine u_mv ?_
    refine u_mv ?_
    refine lg_nil ?_
    refine h9 _ ?_; clear h9; try clear N9
    refine vc_seq_k fun N10 h10 => ?_
    rcases Nat.eq_zero_or_pos i with hi0 | hi0
    ·have hye := hxe
     have hgt : decide ((0 : Int) < (i : Int)) = false := decide_eq_false (by omega)
     have hpm := hxe
     have hx := And.intro @hxe (And.intro @hye (And.intro @hgt (And.intro @hpm (And.intro @eI.eq_1 hx0))))
     refine u_reg ?_
     try refine lg_mk ?_
     refine u_mv ?_
     refine u_bn ?_
     refine u_mv ?_
     refine g_mv ?_
     refine g_mv ?_
     refine g_pt ?_
     refine g_ld ?_
     refine g_mv ?_
     refine g_mv ?_
     refine g_bn ?_
     refine g_pt ?_
     refine g_ld ?_
     refine g_bn ?_
     refine u_pk ?_
     refine lg_nil ?_
     have hx := hx0
     refine h10 _ ?_; clear h10; try clear N10
     refine u_cond (fun hb11 => ?_) (fun hb11 => ?_)
     ·first | omega | exact absurd trivial hb11 | contradiction | (simp_all; done)
     ·refine vc_skip ?_
      try simp only [k_rules]
      refine h8 _ ?_; clear h8; try clear N8
      refine u_reg ?_
      try refine lg_mk ?_
      refine u_bn ?_
      refine u_mv ?_
      refine lg_nil ?_
      refine h4 _ ⟨i + 1, ?_, ?_, [], ?_⟩
      ·dsimp only
       exact ⟨by omega, lt_succ2 i2 (fun h0 => by first | omega | (rw [hxd, hyd]; omega))⟩
      ·dsimp only
       omega
      ·dsimp only
       refine ⟨by rfl, ?_, ?_⟩
       ·refine fin_ ?_
        exact cl_
       ·refine fin_ ?_
        exact cl_
    ·obtain ⟨y, hye⟩ := getE (l := l) (i := i - 1) (by omega)
     have hpm : ((i : Int) - 1).toNat = i - 1 := by omega
     have hgt : decide ((0 : Int) < (i : Int)) = true := decide_eq_true (by omega)
     have hyd : l.getD (i - 1) 0 = y := getD_at hye
     have hx := And.intro @hxe (And.intro @hye (And.intro @hgt (And.intro @hpm (And.intro @eI.eq_1 hx0))))
     refine u_reg ?_
     try refine lg_mk ?_
     refine u_mv ?_
     refine u_bn ?_
     refine u_mv ?_
     refine g_mv ?_
     refine g_mv ?_
     refine g_pt ?_
     refine g_ld ?_
     refine g_mv ?_
     refine g_mv ?_
     refine g_bn ?_
     refine g_pt ?_
     refine g_ld ?_
     refine g_bn ?_
     refine u_pk ?_
     refine lg_nil ?_
     have hx := hx0
     refine h10 _ ?_; clear h10; try clear N10
     refine u_cond (fun hb12 => ?_) (fun hb12 => ?_)
     ·refine vc_seq_k fun N13 h13 => ?_
      refine u_reg ?_
      try refine lg_mk ?_
      refine u_mv ?_
      refine lg_nil ?_
      refine h13 _ ?_; clear h13; try clear N13
      refine vc_ret ?_
      try simp only [k_rules]
      first | (have hr : incB l = true := incB_yes (fun j hj h0 => i2 j (by omega) h0); rw [hr]) | (have hr : incB l = false := incB_no hi0 (by omega) (by rw [hxd, hyd]; omega); rw [hr])
      refine fin2_ ?_
      exact cl_
     ·refine vc_skip ?_
      try simp only [k_rules]
      refine h8 _ ?_; clear h8; try clear N8
      refine u_reg ?_
      try refine lg_mk ?_
      refine u_bn ?_
      refine u_mv ?_
      refine lg_nil ?_
      refine h4 _ ⟨i + 1, ?_, ?_, [], ?_⟩
      ·dsimp only
       exact ⟨by omega, lt_succ2 i2 (fun h0 => by first | omega | (rw [hxd, hyd]; omega))⟩
      ·dsimp only
       omega
      ·dsimp only
       refine ⟨by rfl, ?_, ?_⟩
       ·refine fin_ ?_
        exact cl_
       ·refine fin_ ?_
        exact cl_
   ·refine vc_exit ?_
    simp only [k_rules, Nat.reduceEqDiff, reduceIte, eq_self]
    refine h2 _ ?_; clear h2; try clear N2
    refine vc_seq_k fun N14 h14 => ?_
    refine u_reg ?_
    try refine lg_mk ?_
    refine u_mv ?_
    refine lg_nil ?_
    refine h14 _ ?_; clear h14; try clear N14
    refine vc_ret ?_
    try simp only [k_rules]
    first | (have hr : incB l = true := incB_yes (fun j hj h0 => i2 j (by omega) h0); rw [hr]) | (have hr : incB l = false := incB_no hi0 (by omega) (by rw [hxd, hyd]; omega); rw [hr])
    refine fin2_ ?_
    exact cl_
 ·cases hg

def E_incT : Env Try.prog := E_indexT.add 32 (Spec.pure incTG) incT_meets (by kernel_rfl)

theorem checkT_meets : Meets Try.prog 31 (Spec.pure checkTG) := by
 refine meets_fun (E_incT.at_ 41) Try.func31 rfl rfl rfl ?_
 intro args p r hg hp
 unfold checkTG at hg
 split at hg
 ·rename_i xs
  simp only [Option.some.injEq, Prod.mk.injEq] at hg
  obtain ⟨rfl, rfl⟩ := hg
  obtain ⟨he, hl⟩ := hp
  generalize dI xs = l at *
  subst he
  have hT : (E_incT).X = T := rfl
  have hx0 := And.intro @dec_t (And.intro @dec_f @Try.results31)
  have hx := hx0
  refine ⟨by rfl, ?_⟩
  intro F W0 hnp hmk
  refine vc_seq_k fun N1 h1 => ?_
  refine u_reg ?_
  try refine lg_mk ?_
  refine u_al ?_
  refine lg_nil ?_
  refine h1 _ ?_; clear h1; try clear N1
  refine vc_seq_k fun N2 h2 => ?_
  refine vc_seq_k fun N3 h3 => ?_
  refine u_reg ?_
  try refine lg_mk ?_
  refine u_mv ?_
  refine u_ln ?_
  refine u_bn ?_
  refine lg_nil ?_
  refine h3 _ ?_; clear h3; try clear N3
  refine u_cond (fun hb4 => ?_) (fun hb4 => ?_)
  ·refine vc_seq_k fun N5 h5 => ?_
   refine u_reg ?_
   try refine lg_mk ?_
   refine u_bd ?_
   refine u_st ?_
   refine lg_nil ?_
   refine h5 _ ?_; clear h5; try clear N5
   refine vc_ret ?_
   try simp only [k_rules]
   have hr : txF l = (2, -1) := by unfold txF; rw [if_pos (by have := hb4; omega)]
   rw [hr]
   refine fin2_ ?_
   exact cl_
  ·refine vc_skip ?_
   try simp only [k_rules]
   refine h2 _ ?_; clear h2; try clear N2
   refine vc_seq_k fun N6 h6 => ?_
   refine vc_seq_k fun N7 h7 => ?_
   refine u_reg ?_
   try refine lg_mk ?_
   refine u_mv ?_
   refine u_ln ?_
   refine u_mv ?_
   refine lg_nil ?_
   refine h7 _ ?_; clear h7; try clear N7
   refine vc_block ?_
   refine vc_loop_mk (σ := Nat) (fun s => (fun i => i ≤ l.length ∧ ∀ j, j < i → tf l j = 0) s)
    (fun s => (fun i => [(0, .d (.sl (rows eI l))), (2, .ptr 0 0 0), (9, .d (.sl (rows eI l))), (10, .d (.int .i64 (l.length : Nat))), (11, .d (.int .i64 (i : Nat)))]) s)
    (fun s => (fun i => [some (.one 29 [.d (.int .i64 0), .d (.int .i64 0)])]) s) (fun s => (fun i => l.length - i) s) hnp 0 ?_ [some 0] ?_ ?_
   ·dsimp only
    exact ⟨by omega, fun j hj => by omega⟩
   ·dsimp only
    refine ⟨by rfl, ?_, ?_⟩
    ·refine fin_ ?_
     exact cl_
    ·refine fin_ ?_
     exact cl_
   ·rintro i hinv N8 h8
    dsimp only at hinv ⊢
    obtain ⟨i1, i2⟩ := hinv
    refine vc_seq_k fun N9 h9 => ?_
    refine u_reg ?_
    try refine lg_mk ?_
    refine u_bn ?_
    refine lg_nil ?_
    refine h9 _ ?_; clear h9; try clear N9
    refine vc_seq_k fun N10 h10 => ?_
    refine u_cond (fun hb11 => ?_) (fun hb11 => ?_)
    ·obtain ⟨x, hxe⟩ := getE (l := l) (i := i) (by omega)
     have hxd : l.getD i 0 = x := getD_at hxe
     refine vc_skip ?_
     try simp only [k_rules]
     refine h10 _ ?_; clear h10; try clear N10
     refine vc_seq_k fun N12 h12 => ?_
     refine vc_block ?_
     refine vc_seq_k fun N13 h13 => ?_
     have hx := And.intro @hxe (And.intro @eI.eq_1 hx0)
     refine u_reg ?_
     try refine lg_mk ?_
     refine u_mv ?_
     refine u_pt ?_
     refine u_ld ?_
     refine u_mv ?_
     refine u_mv ?_
     refine lg_nil ?_
     have hx := hx0
     refine h13 _ ?_; clear h13; try clear N13
     refine vc_seq_k fun N14 h14 => ?_
     refine vc_seq_k fun N15 h15 => ?_
     refine u_reg ?_
     try refine lg_mk ?_
     refine u_mv ?_
     refine u_bn ?_
     refine u_mv ?_
     refine g_mv ?_
     refine g_bn ?_
     refine u_pk ?_
     refine lg_nil ?_
     refine h15 _ ?_; clear h15; try clear N15
     refine u_cond (fun hb16 => ?_) (fun hb16 => ?_)
     ·refine vc_seq_k fun N17 h17 => ?_
      refine u_reg ?_
      try refine lg_mk ?_
      refine u_mv ?_
      refine u_bn ?_
      refine u_bd ?_
      refine u_st ?_
      refine lg_nil ?_
      refine h17 _ ?_; clear h17; try clear N17
      refine vc_ret ?_
      try simp only [k_rules]
      have hf : tf l i = 3 := by unfold tf; rw [hxd, if_pos (by have := hb16; simpa [or_comm] using this)]
      have hr : txF l = (3, -2 - (i : Int)) := by unfold txF; rw [if_neg (by have := hb4; omega), firstF_at (i := i) (by rw [hf]; decide) i2 (by omega), hf]; rfl
      rw [hr]
      refine fin2_ ?_
      exact cl_
     ·have hgood : ¬ (x < 0 ∨ 20 ≤ x) := by have := hb16; simpa [not_or] using this
      refine vc_skip ?_
      try simp only [k_rules]
      refine h14 _ ?_; clear h14; try clear N14
      refine vc_seq_k fun N18 h18 => ?_
      rcases Nat.eq_zero_or_pos i with hi0 | hi0
      ·have hye := hxe
       have hgt : decide ((0 : Int) < (i : Int)) = false := decide_eq_false (by omega)
       have hpm := hxe
       have hx := And.intro @hxe (And.intro @hye (And.intro @hgt (And.intro @hpm (And.intro @eI.eq_1 hx0))))
       refine u_reg ?_
       try refine lg_mk ?_
       refine u_mv ?_
       refine u_bn ?_
       refine u_mv ?_
       refine g_mv ?_
       refine g_mv ?_
       refine g_mv ?_
       refine g_bn ?_
       refine g_pt ?_
       refine g_ld ?_
       refine g_bn ?_
       refine u_pk ?_
       refine lg_nil ?_
       have hx := hx0
       refine h18 _ ?_; clear h18; try clear N18
       refine u_cond (fun hb19 => ?_) (fun hb19 => ?_)
       ·first | omega | exact absurd trivial hb19 | contradiction | (simp_all; done)
       ·refine vc_skip ?_
        try simp only [k_rules]
        refine h12 _ ?_; clear h12; try clear N12
        refine u_reg ?_
        try refine lg_mk ?_
        refine u_bn ?_
        refine u_mv ?_
        refine lg_nil ?_
        refine h8 _ ⟨i + 1, ?_, ?_, [some 0], ?_⟩
        ·dsimp only
         exact ⟨by omega, lt_succF i2 (by unfold tf; rw [hxd, if_neg hgood]; first | rfl | (rw [if_neg (by omega)]; done) | (rw [hyd, if_neg (by have := hb19; simpa using this)]; done))⟩
        ·dsimp only
         omega
        ·dsimp only
         refine ⟨by rfl, ?_, ?_⟩
         ·refine fin_ ?_
          exact cl_
         ·refine fin_ ?_
          exact cl_
      ·obtain ⟨y, hye⟩ := getE (l := l) (i := i - 1) (by omega)
       have hpm : ((i : Int) - 1).toNat = i - 1 := by omega
       have hgt : decide ((0 : Int) < (i : Int)) = true := decide_eq_true (by omega)
       have hyd : l.getD (i - 1) 0 = y := getD_at hye
       have hx := And.intro @hxe (And.intro @hye (And.intro @hgt (And.intro @hpm (And.intro @eI.eq_1 hx0))))
       refine u_reg ?_
       try refine lg_mk ?_
       refine u_mv ?_
       refine u_bn ?_
       refine u_mv ?_
       refine g_mv ?_
       refine g_mv ?_
       refine g_mv ?_
       refine g_bn ?_
       refine g_pt ?_
       refine g_ld ?_
       refine g_bn ?_
       refine u_pk ?_
       refine lg_nil ?_
       have hx := hx0
       refine h18 _ ?_; clear h18; try clear N18
       refine u_cond (fun hb20 => ?_) (fun hb20 => ?_)
       ·refine vc_seq_k fun N21 h21 => ?_
        refine u_reg ?_
        try refine lg_mk ?_
        refine u_mv ?_
        refine u_bn ?_
        refine u_bd ?_
        refine u_st ?_
        refine lg_nil ?_
        refine h21 _ ?_; clear h21; try clear N21
        refine vc_ret ?_
        try simp only [k_rules]
        have hf : tf l i = 5 := by unfold tf; rw [hxd, hyd, if_neg hgood, if_pos ⟨by omega, by have := hb20; simpa using this⟩]
        have hr : txF l = (5, -2 - (i : Int)) := by unfold txF; rw [if_neg (by have := hb4; omega), firstF_at (i := i) (by rw [hf]; decide) i2 (by omega), hf]; rfl
        rw [hr]
        refine fin2_ ?_
        exact cl_
       ·refine vc_skip ?_
        try simp only [k_rules]
        refine h12 _ ?_; clear h12; try clear N12
        refine u_reg ?_
        try refine lg_mk ?_
        refine u_bn ?_
        refine u_mv ?_
        refine lg_nil ?_
        refine h8 _ ⟨i + 1, ?_, ?_, [some 0], ?_⟩
        ·dsimp only
         exact ⟨by omega, lt_succF i2 (by unfold tf; rw [hxd, if_neg hgood]; first | rfl | (rw [if_neg (by omega)]; done) | (rw [hyd, if_neg (by have := hb20; simpa using this)]; done))⟩
        ·dsimp only
         omega
        ·dsimp only
         refine ⟨by rfl, ?_, ?_⟩
         ·refine fin_ ?_
          exact cl_
         ·refine fin_ ?_
          exact cl_
    ·refine vc_exit ?_
     simp only [k_rules, Nat.reduceEqDiff, reduceIte, eq_self]
     refine h6 _ ?_; clear h6; try clear N6
     refine vc_seq_k fun N22 h22 => ?_
     refine u_reg ?_
     try refine lg_mk ?_
     refine u_bd ?_
     refine u_st ?_
     refine lg_nil ?_
     refine h22 _ ?_; clear h22; try clear N22
     refine vc_ret ?_
     try simp only [k_rules]
     have hr : txF l = (0, 0) := by unfold txF; rw [if_neg (by have := hb4; omega), firstF_none (fun j hj => i2 j (by omega))]
     rw [hr]
     refine fin2_ ?_
     exact cl_
 ·cases hg

def E_checkT : Env Try.prog := E_incT.add 31 (Spec.pure checkTG) checkT_meets (by kernel_rfl)
end Go.Proofs.Ytjdhadbnmghdgaa
