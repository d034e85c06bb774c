/- Walks, printed by wip/gen/walk.py. -/
import Derived.Test.YtjpkgmmmmcgmeaaT4
import Derived.Test.YtjpkgmmmmcgmeaaV5
set_option linter.all false
set_option maxRecDepth 100000
set_option maxHeartbeats 4000000
namespace Go.Proofs.Ytjpkgmmmmcgmeaa
open Go Go.Vc Go.RowKit
def fidx (P : Int → Bool) (l : List Int) : Int := if l.any P then (l.findIdx P : Nat) else -1
theorem fidx_at {P : Int → Bool} {l : List Int} {i : Nat} {x : Int} (h : l[i]? = some x) (hp : P x = true) (hn : ∀ y ∈ l.take i, P y = false) : fidx P l = i := by
  have ha : l.any P = true := List.any_eq_true.2 ⟨x, List.mem_of_getElem? h, hp⟩
  unfold fidx; rw [if_pos ha]
  congr 1
  clear ha
  induction l generalizing i with
  | nil => simp at h
  | cons a l ih =>
    cases i with
    | zero => simp only [List.getElem?_cons_zero, Option.some.injEq] at h; subst h; rw [List.findIdx_cons, hp]; rfl
    | succ i =>
      have h1 := hn a (by simp)
      rw [List.findIdx_cons, h1, ih (by simpa using h) (fun y hy => hn y (by simp [hy]))]; rfl
theorem fidx_none {P : Int → Bool} {l : List Int} (hn : ∀ y ∈ l, P y = false) : fidx P l = -1 := by
  unfold fidx; rw [if_neg]
  rw [List.any_eq_true]; rintro ⟨x, hx, h⟩; rw [hn x hx] at h; cases h
theorem fidx_any (P : Int → Bool) (l : List Int) : decide (0 ≤ fidx P l) = l.any P := by
  unfold fidx; split
  · rename_i h; rw [h]; exact decide_eq_true (by omega)
  · rename_i h; rw [Bool.not_eq_true] at h; rw [h]; exact decide_eq_false (by omega)

def rgG : List AV → Option (Prop × AV)
  | [.d (.int .i64 n)] => some (True, .d (.bool (rgK n)))
  | _ => none
def nrgG : List AV → Option (Prop × AV)
  | [.d (.int .i64 n)] => some (True, .d (.bool (!rgK n)))
  | _ => none
def nanG : List AV → Option (Prop × AV)
  | [.d (.int .i64 n)] => some (True, .d (.bool false))
  | _ => none
def cmpIG : List AV → Option (Prop × AV)
  | [.d (.int .i64 a), .d (.int .i64 b)] => some (True, .d (.int .i64 (cmpI a b)))
  | _ => none
def cmpLG : List AV → Option (Prop × AV)
  | [.d (.sl xs), .d (.sl ys)] => some (xs = rows eI (dI xs) ∧ (dI xs).length ≤ 9223372036854775807 ∧ ys = rows eI (dI ys) ∧ (dI ys).length ≤ 9223372036854775807, .d (.int .i64 (cmpL (dI xs) (dI ys))))
  | _ => none
def orL (l : List Int) : Int := (l.find? fun x => decide (x ≠ 0)).getD 0
def orLG : List AV → Option (Prop × AV)
  | [.d (.sl xs)] => some (xs = rows eI (dI xs) ∧ (dI xs).length ≤ 9223372036854775807, .d (.int .i64 (orL (dI xs))))
  | _ => none
theorem orL_at {l : List Int} {i : Nat} {x : Int} (h : l[i]? = some x) (hx : x ≠ 0) (hn : ∀ y ∈ l.take i, y = 0) : orL l = x := by
  unfold orL
  induction l generalizing i with
  | nil => simp at h
  | cons a l ih =>
    cases i with
    | zero => simp at h; subst h; rw [List.find?_cons_of_pos (by simpa using hx)]; rfl
    | succ i =>
      have h1 := hn a (by simp)
      rw [List.find?_cons_of_neg (by simp [h1])]
      exact ih (by simpa using h) (fun y hy => hn y (by simp [hy]))
theorem orL_none {l : List Int} (hn : ∀ y ∈ l, y = 0) : orL l = 0 := by
  unfold orL
  rw [List.find?_eq_none.2 (fun x hx => by simp [hn x hx])]; rfl
theorem cmpL_at {l m : List Int} {k : Nat} {x y : Int} (hx : l[k]? = some x) (hy : m[k]? = some y) : cmpL (l.drop k) (m.drop k) = if cmpI x y ≠ 0 then cmpI x y else cmpL (l.drop (k + 1)) (m.drop (k + 1)) := by
  obtain ⟨h1, e1⟩ := List.getElem?_eq_some_iff.1 hx
  obtain ⟨h2, e2⟩ := List.getElem?_eq_some_iff.1 hy
  rw [List.drop_eq_getElem_cons h1, List.drop_eq_getElem_cons h2, e1, e2]; rfl
theorem cmpL_gt {l m : List Int} {k : Nat} (h1 : k < l.length) (h2 : m.length ≤ k) : cmpL (l.drop k) (m.drop k) = 1 := by
  rw [List.drop_eq_getElem_cons h1, List.drop_eq_nil_of_le h2]; rfl
theorem cmpL_lt {l m : List Int} {k : Nat} (h1 : l.length ≤ k) (h2 : k < m.length) : cmpL (l.drop k) (m.drop k) = -1 := by
  rw [List.drop_eq_getElem_cons h2, List.drop_eq_nil_of_le h1]; rfl
theorem cmpL_eq {l m : List Int} {k : Nat} (h1 : l.length ≤ k) (h2 : m.length ≤ k) : cmpL (l.drop k) (m.drop k) = 0 := by
  rw [List.drop_eq_nil_of_le h1, List.drop_eq_nil_of_le h2]; rfl
def cmpKG : List AV → Option (Prop × AV)
  | [.agg [.d (.int .i64 a), .d (.sl xs)], .agg [.d (.int .i64 b), .d (.sl ys)]] => some (xs = rows eI (dI xs) ∧ (dI xs).length ≤ 9223372036854775807 ∧ ys = rows eI (dI ys) ∧ (dI ys).length ≤ 9223372036854775807, .d (.int .i64 (cmpK ⟨a, dI xs⟩ ⟨b, dI ys⟩)))
  | _ => none
theorem orL_two (a b : Int) : orL [a, b] = if a ≠ 0 then a else b := by
  unfold orL
  by_cases h : a = 0
  · rw [List.find?_cons_of_neg (by simp [h]), if_neg (by simp [h])]
    by_cases h2 : b = 0
    · rw [List.find?_cons_of_neg (by simp [h2])]; simp [h2]
    · rw [List.find?_cons_of_pos (by simp [h2])]; rfl
  · rw [List.find?_cons_of_pos (by simp [h]), if_pos h]; rfl
theorem orL_cmp (a b : Int) (l m : List Int) : orL (dI [[.int .i64 (cmpI a b)], [.int .i64 (cmpL l m)]]) = cmpK ⟨a, l⟩ ⟨b, m⟩ := orL_two _ _
def ixKG : List AV → Option (Prop × AV)
  | [.d (.sl xs), .clo (.func 57) []] => some (xs = rows eI (dI xs) ∧ (dI xs).length ≤ 9223372036854775807, .d (.int .i64 (fidx (fun n => !rgK n) (dI xs))))
  | _ => none
def conKG : List AV → Option (Prop × AV)
  | [.d (.sl xs), .clo (.func 57) []] => some (xs = rows eI (dI xs) ∧ (dI xs).length ≤ 9223372036854775807, .d (.bool ((dI xs).any fun n => !rgK n)))
  | _ => none
def chkKG : List AV → Option (Prop × AV)
  | [.agg [.d (.int .i64 a), .d (.sl xs)]] => some (xs = rows eI (dI xs) ∧ (dI xs).length ≤ 9223372036854775807, .d (.int .i64 (chkK ⟨a, dI xs⟩)))
  | _ => none
def lessKG : List AV → Option (Prop × AV)
  | [.agg [.d (.int .i64 a), .d (.sl xs)], .agg [.d (.int .i64 b), .d (.sl ys)]] => some (xs = rows eI (dI xs) ∧ (dI xs).length ≤ 9223372036854775807 ∧ ys = rows eI (dI ys) ∧ (dI ys).length ≤ 9223372036854775807, .d (.bool (decide (cmpK ⟨a, dI xs⟩ ⟨b, dI ys⟩ < 0))))
  | _ => none
def smallM (L : List Mk) : Prop := ∀ m ∈ L, m.nw.length ≤ 9223372036854775807
def goneG : List AV → Option (Prop × AV)
  | [.d (.sl xs), .d (.int .i64 n)] => some (xs = rows eM (dM xs) ∧ (dM xs).length ≤ 9223372036854775807, .d (.bool (goneK (dM xs) n)))
  | _ => none
theorem chk_any (o : Int) (l : List Int) : (!(rgK o) || l.any fun n => !rgK n) = !chkR ⟨o, l⟩ := by
  unfold chkR
  rw [Bool.not_and]
  congr 1
  induction l with
  | nil => rfl
  | cons a l ih => rw [List.any_cons, ih, List.all_cons, Bool.not_and]

theorem all_false_snoc {l : List Int} {k : Nat} {x : Int} {P : Int → Bool} (h : ∀ y ∈ l.take k, P y = false) (hx : l[k]? = some x) (hp : P x = false) : ∀ y ∈ l.take (k + 1), P y = false := all_snoc h hx hp

theorem getD_at {α : Type} {l : List α} {i : Nat} {x d : α} (h : l[i]? = some x) : l.getD i d = x := by rw [List.getD_eq_getElem?_getD, h]; rfl

theorem rg_meets : Meets Try.prog 40 (Spec.pure rgG) := by
 refine meets_fun (E_reach3.at_ 9) Try.func40 rfl rfl rfl ?_
 intro args p r hg hp
 unfold rgG at hg
 split at hg
 ·rename_i n
  simp only [Option.some.injEq, Prod.mk.injEq] at hg
  obtain ⟨rfl, rfl⟩ := hg
  have hT : (E_reach3).X = T := rfl
  have hx0 := @Try.results40
  have hx := hx0
  refine ⟨by rfl, ?_⟩
  intro F W0 hnp hmk
  refine vc_seq_k fun N1 h1 => ?_
  refine u_reg ?_
  try refine lg_mk ?_
  refine u_mv ?_
  refine lg_nil ?_
  refine h1 _ ?_; clear h1; try clear N1
  refine vc_seq_k fun N2 h2 => ?_
  refine u_reg ?_
  try refine lg_mk ?_
  refine u_mv ?_
  refine u_bn ?_
  refine u_mv ?_
  refine g_mv ?_
  refine g_bn ?_
  refine u_pk ?_
  refine u_mv ?_
  refine lg_nil ?_
  refine h2 _ ?_; clear h2; try clear N2
  refine vc_ret ?_
  try simp only [k_rules]
  refine fin2_ ?_
  exact cl_
 ·cases hg

def E_rg : Env Try.prog := E_reach3.add 40 (Spec.pure rgG) rg_meets (by kernel_rfl)

theorem nrg_meets : Meets Try.prog 57 (Spec.pure nrgG) := by
 refine meets_fun (E_rg.at_ 6) Try.func57 rfl rfl rfl ?_
 intro args p r hg hp
 unfold nrgG at hg
 split at hg
 ·rename_i n
  simp only [Option.some.injEq, Prod.mk.injEq] at hg
  obtain ⟨rfl, rfl⟩ := hg
  have hT : (E_rg).X = T := rfl
  have hx0 := @Try.results57
  have hx := hx0
  refine ⟨by rfl, ?_⟩
  intro F W0 hnp hmk
  refine vc_seq_k fun N1 h1 => ?_
  refine u_reg ?_
  try refine lg_mk ?_
  refine u_mv ?_
  refine lg_nil ?_
  refine h1 _ ?_; clear h1; try clear N1
  refine vc_seq_k fun N2 h2 => ?_
  refine u_reg ?_
  try refine lg_mk ?_
  refine u_mv ?_
  have hc := call_rule (E := (E_rg.at_ 6)) (f := 40) (sp := Spec.pure rgG) rfl
  have hs := @rgG.eq_1
  refine u_cp ?_
  refine u_un ?_
  refine u_mv ?_
  refine lg_nil ?_
  refine h2 _ ?_; clear h2; try clear N2
  refine vc_ret ?_
  try simp only [k_rules]
  refine fin2_ ?_
  exact cl_
 ·cases hg

def E_nrg : Env Try.prog := E_rg.add 57 (Spec.pure nrgG) nrg_meets (by kernel_rfl)

theorem isCh_meets : Meets Try.prog 36 (Spec.pure rgG) := by
 refine meets_fun (E_nrg.at_ 5) Try.func36 rfl rfl rfl ?_
 intro args p r hg hp
 unfold rgG at hg
 split at hg
 ·rename_i n
  simp only [Option.some.injEq, Prod.mk.injEq] at hg
  obtain ⟨rfl, rfl⟩ := hg
  have hT : (E_nrg).X = T := rfl
  have hx0 := @Try.results36
  have hx := hx0
  refine ⟨by rfl, ?_⟩
  intro F W0 hnp hmk
  refine vc_seq_k fun N1 h1 => ?_
  refine u_reg ?_
  try refine lg_mk ?_
  refine u_mv ?_
  refine lg_nil ?_
  refine h1 _ ?_; clear h1; try clear N1
  refine vc_seq_k fun N2 h2 => ?_
  refine u_reg ?_
  try refine lg_mk ?_
  refine u_mv ?_
  have hc := call_rule (E := (E_nrg.at_ 5)) (f := 21) (sp := Spec.pure inG) rfl
  have hs := @inG.eq_1
  refine u_cp ?_
  refine u_mv ?_
  refine lg_nil ?_
  refine h2 _ ?_; clear h2; try clear N2
  refine vc_ret ?_
  try simp only [k_rules]
  refine fin2_ ?_
  exact cl_
 ·cases hg

def E_isCh : Env Try.prog := E_nrg.add 36 (Spec.pure rgG) isCh_meets (by kernel_rfl)

theorem nan_meets : Meets Try.prog 70 (Spec.pure nanG) := by
 refine meets_fun (E_isCh.at_ 6) Try.func70 rfl rfl rfl ?_
 intro args p r hg hp
 unfold nanG at hg
 split at hg
 ·rename_i n
  simp only [Option.some.injEq, Prod.mk.injEq] at hg
  obtain ⟨rfl, rfl⟩ := hg
  have hT : (E_isCh).X = T := rfl
  have hx0 := @Try.results70
  have hx := hx0
  refine ⟨by rfl, ?_⟩
  intro F W0 hnp hmk
  refine vc_seq_k fun N1 h1 => ?_
  refine u_reg ?_
  try refine lg_mk ?_
  refine u_mv ?_
  refine lg_nil ?_
  refine h1 _ ?_; clear h1; try clear N1
  refine vc_seq_k fun N2 h2 => ?_
  refine u_reg ?_
  try refine lg_mk ?_
  refine u_mv ?_
  refine u_mv ?_
  refine u_bn ?_
  refine u_mv ?_
  refine lg_nil ?_
  refine h2 _ ?_; clear h2; try clear N2
  refine vc_ret ?_
  try simp only [k_rules]
  refine fin2_ ?_
  exact cl_
 ·cases hg

def E_nan : Env Try.prog := E_isCh.add 70 (Spec.pure nanG) nan_meets (by kernel_rfl)

theorem cmpI_meets : Meets Try.prog 54 (Spec.pure cmpIG) := by
 refine meets_fun (E_nan.at_ 20) Try.func54 rfl rfl rfl ?_
 intro args p r hg hp
 unfold cmpIG at hg
 split at hg
 ·rename_i a b
  simp only [Option.some.injEq, Prod.mk.injEq] at hg
  obtain ⟨rfl, rfl⟩ := hg
  have hT : (E_nan).X = T := rfl
  have hx0 := @Try.results54
  have hx := hx0
  refine ⟨by rfl, ?_⟩
  intro F W0 hnp hmk
  refine vc_seq_k fun N1 h1 => ?_
  refine u_reg ?_
  try refine lg_mk ?_
  refine u_mv ?_
  refine lg_nil ?_
  refine h1 _ ?_; clear h1; try clear N1
  refine vc_seq_k fun N2 h2 => ?_
  refine u_reg ?_
  try refine lg_mk ?_
  refine u_mv ?_
  have hc := call_rule (E := (E_nan.at_ 20)) (f := 70) (sp := Spec.pure nanG) rfl
  have hs := @nanG.eq_1
  refine u_cp ?_
  refine u_mv ?_
  refine lg_nil ?_
  refine h2 _ ?_; clear h2; try clear N2
  refine vc_seq_k fun N3 h3 => ?_
  refine u_reg ?_
  try refine lg_mk ?_
  refine u_mv ?_
  have hc := call_rule (E := (E_nan.at_ 20)) (f := 70) (sp := Spec.pure nanG) rfl
  have hs := @nanG.eq_1
  refine u_cp ?_
  refine u_mv ?_
  refine lg_nil ?_
  refine h3 _ ?_; clear h3; try clear N3
  refine vc_seq_k fun N4 h4 => ?_
  refine vc_seq_k fun N5 h5 => ?_
  refine u_reg ?_
  try refine lg_mk ?_
  refine u_mv ?_
  refine lg_nil ?_
  refine h5 _ ?_; clear h5; try clear N5
  refine u_cond (fun hb6 => ?_) (fun hb6 => ?_)
  ·first | omega | exact absurd trivial hb6 | contradiction | (simp_all; done)
  ·refine vc_skip ?_
   try simp only [k_rules]
   refine h4 _ ?_; clear h4; try clear N4
   refine vc_seq_k fun N7 h7 => ?_
   refine vc_seq_k fun N8 h8 => ?_
   refine u_reg ?_
   try refine lg_mk ?_
   refine u_mv ?_
   refine lg_nil ?_
   refine h8 _ ?_; clear h8; try clear N8
   refine u_cond (fun hb9 => ?_) (fun hb9 => ?_)
   ·first | omega | exact absurd trivial hb9 | contradiction | (simp_all; done)
   ·refine vc_skip ?_
    try simp only [k_rules]
    refine h7 _ ?_; clear h7; try clear N7
    refine vc_seq_k fun N10 h10 => ?_
    refine vc_seq_k fun N11 h11 => ?_
    refine u_reg ?_
    try refine lg_mk ?_
    refine u_mv ?_
    refine u_mv ?_
    refine u_bn ?_
    refine lg_nil ?_
    refine h11 _ ?_; clear h11; try clear N11
    refine u_cond (fun hb12 => ?_) (fun hb12 => ?_)
    ·refine vc_seq_k fun N13 h13 => ?_
     refine u_reg ?_
     try refine lg_mk ?_
     refine u_mv ?_
     refine lg_nil ?_
     refine h13 _ ?_; clear h13; try clear N13
     refine vc_ret ?_
     try simp only [k_rules]
     have hr : cmpI a b = -1 := by unfold cmpI; rw [if_pos (by have := hb12; omega)]
     rw [hr]
     refine fin2_ ?_
     exact cl_
    ·refine vc_skip ?_
     try simp only [k_rules]
     refine h10 _ ?_; clear h10; try clear N10
     refine vc_seq_k fun N14 h14 => ?_
     refine vc_seq_k fun N15 h15 => ?_
     refine u_reg ?_
     try refine lg_mk ?_
     refine u_mv ?_
     refine u_mv ?_
     refine u_bn ?_
     refine lg_nil ?_
     refine h15 _ ?_; clear h15; try clear N15
     refine u_cond (fun hb16 => ?_) (fun hb16 => ?_)
     ·refine vc_seq_k fun N17 h17 => ?_
      refine u_reg ?_
      try refine lg_mk ?_
      refine u_mv ?_
      refine lg_nil ?_
      refine h17 _ ?_; clear h17; try clear N17
      refine vc_ret ?_
      try simp only [k_rules]
      have hr : cmpI a b = 1 := by unfold cmpI; rw [if_neg (by have := hb12; omega), if_pos (by have := hb16; omega)]
      rw [hr]
      refine fin2_ ?_
      exact cl_
     ·refine vc_skip ?_
      try simp only [k_rules]
      refine h14 _ ?_; clear h14; try clear N14
      refine vc_seq_k fun N18 h18 => ?_
      refine u_reg ?_
      try refine lg_mk ?_
      refine u_mv ?_
      refine lg_nil ?_
      refine h18 _ ?_; clear h18; try clear N18
      refine vc_ret ?_
      try simp only [k_rules]
      have hr : cmpI a b = 0 := by unfold cmpI; rw [if_neg (by have := hb12; omega), if_neg (by have := hb16; omega)]
      rw [hr]
      refine fin2_ ?_
      exact cl_
 ·cases hg

def E_cmpI : Env Try.prog := E_nan.add 54 (Spec.pure cmpIG) cmpI_meets (by kernel_rfl)

theorem orL_meets : Meets Try.prog 53 (Spec.pure orLG) := by
 refine meets_fun (E_cmpI.at_ 18) Try.func53 rfl rfl rfl ?_
 intro args p r hg hp
 unfold orLG at hg
 split at hg
 ·rename_i xs
  simp only [Option.some.injEq, Prod.mk.injEq] at hg
  obtain ⟨rfl, rfl⟩ := hg
  obtain ⟨he, hl⟩ := hp
  generalize dI xs = l at *
  subst he
  have hT : (E_cmpI).X = T := rfl
  have hx0 := @Try.results53
  have hx := hx0
  refine ⟨by rfl, ?_⟩
  intro F W0 hnp hmk
  refine vc_seq_k fun N1 h1 => ?_
  refine u_reg ?_
  try refine lg_mk ?_
  refine u_mv ?_
  refine lg_nil ?_
  refine h1 _ ?_; clear h1; try clear N1
  refine vc_seq_k fun N2 h2 => ?_
  refine u_reg ?_
  try refine lg_mk ?_
  refine u_mv ?_
  refine lg_nil ?_
  refine h2 _ ?_; clear h2; try clear N2
  refine vc_seq_k fun N3 h3 => ?_
  refine vc_seq_k fun N4 h4 => ?_
  refine u_reg ?_
  try refine lg_mk ?_
  refine u_mv ?_
  refine u_ln ?_
  refine u_mv ?_
  refine lg_nil ?_
  refine h4 _ ?_; clear h4; try clear N4
  refine vc_block ?_
  refine vc_loop_mk (σ := Nat) (fun s => (fun k => k ≤ l.length ∧ ∀ y ∈ l.take k, y = 0) s)
   (fun s => (fun k => [(3, .d (.int .i64 0)), (6, .d (.sl (rows eI l))), (7, .d (.int .i64 (l.length : Nat))), (8, .d (.int .i64 (k : Nat)))]) s)
   (fun s => (fun k => []) s) (fun s => (fun k => l.length - k) s) hnp 0 ?_ [] ?_ ?_
  ·dsimp only
   simp
  ·dsimp only
   refine ⟨by rfl, ?_, ?_⟩
   ·refine fin_ ?_
    exact cl_
   ·refine fin_ ?_
    exact cl_
  ·rintro k hinv N5 h5
   dsimp only at hinv ⊢
   obtain ⟨k1, k2⟩ := hinv
   refine vc_seq_k fun N6 h6 => ?_
   refine u_reg ?_
   try refine lg_mk ?_
   refine u_bn ?_
   refine lg_nil ?_
   refine h6 _ ?_; clear h6; try clear N6
   refine vc_seq_k fun N7 h7 => ?_
   refine u_cond (fun hb8 => ?_) (fun hb8 => ?_)
   ·obtain ⟨x, hxe⟩ := getE (l := l) (i := k) (by omega)
    refine vc_skip ?_
    try simp only [k_rules]
    refine h7 _ ?_; clear h7; try clear N7
    refine vc_seq_k fun N9 h9 => ?_
    refine vc_block ?_
    refine vc_seq_k fun N10 h10 => ?_
    have hx := And.intro @hxe (And.intro @eI.eq_1 hx0)
    refine u_reg ?_
    try refine lg_mk ?_
    refine u_pt ?_
    refine u_ld ?_
    refine u_mv ?_
    refine lg_nil ?_
    have hx := hx0
    refine h10 _ ?_; clear h10; try clear N10
    refine vc_seq_k fun N11 h11 => ?_
    refine u_reg ?_
    try refine lg_mk ?_
    refine u_mv ?_
    refine u_mv ?_
    refine u_bn ?_
    refine lg_nil ?_
    refine h11 _ ?_; clear h11; try clear N11
    refine u_cond (fun hb12 => ?_) (fun hb12 => ?_)
    ·refine vc_seq_k fun N13 h13 => ?_
     refine u_reg ?_
     try refine lg_mk ?_
     refine u_mv ?_
     refine u_mv ?_
     refine lg_nil ?_
     refine h13 _ ?_; clear h13; try clear N13
     refine vc_ret ?_
     try simp only [k_rules]
     rw [orL_at hxe (by have := hb12; omega) k2]
     refine fin2_ ?_
     exact cl_
    ·refine vc_skip ?_
     try simp only [k_rules]
     refine h9 _ ?_; clear h9; try clear N9
     refine u_reg ?_
     try refine lg_mk ?_
     refine u_bn ?_
     refine u_mv ?_
     refine lg_nil ?_
     refine h5 _ ⟨k + 1, ?_, ?_, [], ?_⟩
     ·dsimp only
      exact ⟨by omega, all_snoc k2 hxe (by have := hb12; omega)⟩
     ·dsimp only
      omega
     ·dsimp only
      refine ⟨by rfl, ?_, ?_⟩
      ·refine fin_ ?_
       exact cl_
      ·refine fin_ ?_
       exact cl_
   ·refine vc_exit ?_
    simp only [k_rules, Nat.reduceEqDiff, reduceIte, eq_self]
    refine h3 _ ?_; clear h3; try clear N3
    refine vc_seq_k fun N14 h14 => ?_
    refine u_reg ?_
    try refine lg_mk ?_
    refine u_mv ?_
    refine u_mv ?_
    refine lg_nil ?_
    refine h14 _ ?_; clear h14; try clear N14
    refine vc_ret ?_
    try simp only [k_rules]
    rw [orL_none (by rw [List.take_of_length_le (by omega)] at k2; exact k2)]
    refine fin2_ ?_
    exact cl_
 ·cases hg

def E_orL : Env Try.prog := E_cmpI.add 53 (Spec.pure orLG) orL_meets (by kernel_rfl)

theorem cmpL_meets : Meets Try.prog 55 (Spec.pure cmpLG) := by
 refine meets_fun (E_orL.at_ 36) Try.func55 rfl rfl rfl ?_
 intro args p r hg hp
 unfold cmpLG at hg
 split at hg
 ·rename_i xs ys
  simp only [Option.some.injEq, Prod.mk.injEq] at hg
  obtain ⟨rfl, rfl⟩ := hg
  obtain ⟨he, hl, he2, hm⟩ := hp
  generalize dI xs = l at *
  generalize dI ys = m at *
  subst he he2
  have hT : (E_orL).X = T := rfl
  have hx0 := @Try.results55
  have hx := hx0
  refine ⟨by rfl, ?_⟩
  intro F W0 hnp hmk
  refine vc_seq_k fun N1 h1 => ?_
  refine u_reg ?_
  try refine lg_mk ?_
  refine u_mv ?_
  refine lg_nil ?_
  refine h1 _ ?_; clear h1; try clear N1
  refine vc_seq_k fun N2 h2 => ?_
  refine vc_seq_k fun N3 h3 => ?_
  refine u_reg ?_
  try refine lg_mk ?_
  refine u_mv ?_
  refine u_ln ?_
  refine u_mv ?_
  refine lg_nil ?_
  refine h3 _ ?_; clear h3; try clear N3
  refine vc_block ?_
  refine vc_loop_mk (σ := Nat) (fun s => (fun k => k ≤ l.length ∧ k ≤ m.length ∧ cmpL l m = cmpL (l.drop k) (m.drop k)) s)
   (fun s => (fun k => [(0, .d (.sl (rows eI l))), (1, .d (.sl (rows eI m))), (9, .d (.sl (rows eI l))), (10, .d (.int .i64 (l.length : Nat))), (11, .d (.int .i64 (k : Nat)))]) s)
   (fun s => (fun k => []) s) (fun s => (fun k => l.length - k) s) hnp 0 ?_ [] ?_ ?_
  ·dsimp only
   exact ⟨by omega, by omega, rfl⟩
  ·dsimp only
   refine ⟨by rfl, ?_, ?_⟩
   ·refine fin_ ?_
    exact cl_
   ·refine fin_ ?_
    exact cl_
  ·rintro k hinv N4 h4
   dsimp only at hinv ⊢
   obtain ⟨k1, k2, k3⟩ := hinv
   refine vc_seq_k fun N5 h5 => ?_
   refine u_reg ?_
   try refine lg_mk ?_
   refine u_bn ?_
   refine lg_nil ?_
   refine h5 _ ?_; clear h5; try clear N5
   refine vc_seq_k fun N6 h6 => ?_
   refine u_cond (fun hb7 => ?_) (fun hb7 => ?_)
   ·obtain ⟨x, hxe⟩ := getE (l := l) (i := k) (by omega)
    refine vc_skip ?_
    try simp only [k_rules]
    refine h6 _ ?_; clear h6; try clear N6
    refine vc_seq_k fun N8 h8 => ?_
    refine vc_block ?_
    refine vc_seq_k fun N9 h9 => ?_
    have hx := And.intro @hxe (And.intro @eI.eq_1 hx0)
    refine u_reg ?_
    try refine lg_mk ?_
    refine u_mv ?_
    refine u_pt ?_
    refine u_ld ?_
    refine u_mv ?_
    refine u_mv ?_
    refine lg_nil ?_
    have hx := hx0
    refine h9 _ ?_; clear h9; try clear N9
    refine vc_seq_k fun N10 h10 => ?_
    refine vc_seq_k fun N11 h11 => ?_
    refine u_reg ?_
    try refine lg_mk ?_
    refine u_mv ?_
    refine u_mv ?_
    refine u_ln ?_
    refine u_bn ?_
    refine lg_nil ?_
    refine h11 _ ?_; clear h11; try clear N11
    refine u_cond (fun hb12 => ?_) (fun hb12 => ?_)
    ·refine vc_seq_k fun N13 h13 => ?_
     refine u_reg ?_
     try refine lg_mk ?_
     refine u_mv ?_
     refine lg_nil ?_
     refine h13 _ ?_; clear h13; try clear N13
     refine vc_ret ?_
     try simp only [k_rules]
     rw [k3, cmpL_gt (by omega) (by omega)]
     refine fin2_ ?_
     exact cl_
    ·obtain ⟨y, hye⟩ := getE (l := m) (i := k) (by omega)
     refine vc_skip ?_
     try simp only [k_rules]
     refine h10 _ ?_; clear h10; try clear N10
     refine vc_seq_k fun N14 h14 => ?_
     have hx := And.intro @hye (And.intro @eI.eq_1 hx0)
     refine u_reg ?_
     try refine lg_mk ?_
     refine u_mv ?_
     refine u_mv ?_
     refine u_pt ?_
     refine u_ld ?_
     refine u_mv ?_
     refine lg_nil ?_
     have hx := hx0
     refine h14 _ ?_; clear h14; try clear N14
     refine vc_seq_k fun N15 h15 => ?_
     refine u_reg ?_
     try refine lg_mk ?_
     refine u_mv ?_
     refine u_mv ?_
     have hc := call_rule (E := (E_orL.at_ 36)) (f := 54) (sp := Spec.pure cmpIG) rfl
     have hs := @cmpIG.eq_1
     refine u_cp ?_
     refine u_mv ?_
     refine lg_nil ?_
     refine h15 _ ?_; clear h15; try clear N15
     refine vc_seq_k fun N16 h16 => ?_
     refine u_reg ?_
     try refine lg_mk ?_
     refine u_mv ?_
     refine u_bn ?_
     refine lg_nil ?_
     refine h16 _ ?_; clear h16; try clear N16
     refine u_cond (fun hb17 => ?_) (fun hb17 => ?_)
     ·refine vc_seq_k fun N18 h18 => ?_
      refine u_reg ?_
      try refine lg_mk ?_
      refine u_mv ?_
      refine u_mv ?_
      refine lg_nil ?_
      refine h18 _ ?_; clear h18; try clear N18
      refine vc_ret ?_
      try simp only [k_rules]
      rw [k3, cmpL_at hxe hye, if_pos (by have := hb17; omega)]
      refine fin2_ ?_
      exact cl_
     ·refine vc_skip ?_
      try simp only [k_rules]
      refine h8 _ ?_; clear h8; try clear N8
      refine u_reg ?_
      try refine lg_mk ?_
      refine u_bn ?_
      refine u_mv ?_
      refine lg_nil ?_
      refine h4 _ ⟨k + 1, ?_, ?_, [], ?_⟩
      ·dsimp only
       exact ⟨by omega, by omega, by rw [k3, cmpL_at hxe hye, if_neg (by have := hb17; omega)]⟩
      ·dsimp only
       omega
      ·dsimp only
       refine ⟨by rfl, ?_, ?_⟩
       ·refine fin_ ?_
        exact cl_
       ·refine fin_ ?_
        exact cl_
   ·refine vc_exit ?_
    simp only [k_rules, Nat.reduceEqDiff, reduceIte, eq_self]
    refine h2 _ ?_; clear h2; try clear N2
    refine vc_seq_k fun N19 h19 => ?_
    refine vc_seq_k fun N20 h20 => ?_
    refine u_reg ?_
    try refine lg_mk ?_
    refine u_mv ?_
    refine u_ln ?_
    refine u_mv ?_
    refine u_ln ?_
    refine u_bn ?_
    refine lg_nil ?_
    refine h20 _ ?_; clear h20; try clear N20
    refine u_cond (fun hb21 => ?_) (fun hb21 => ?_)
    ·refine vc_seq_k fun N22 h22 => ?_
     refine u_reg ?_
     try refine lg_mk ?_
     refine u_mv ?_
     refine lg_nil ?_
     refine h22 _ ?_; clear h22; try clear N22
     refine vc_ret ?_
     try simp only [k_rules]
     rw [k3, cmpL_lt (by omega) (by omega)]
     refine fin2_ ?_
     exact cl_
    ·refine vc_skip ?_
     try simp only [k_rules]
     refine h19 _ ?_; clear h19; try clear N19
     refine vc_seq_k fun N23 h23 => ?_
     refine u_reg ?_
     try refine lg_mk ?_
     refine u_mv ?_
     refine lg_nil ?_
     refine h23 _ ?_; clear h23; try clear N23
     refine vc_ret ?_
     try simp only [k_rules]
     rw [k3, cmpL_eq (by omega) (by omega)]
     refine fin2_ ?_
     exact cl_
 ·cases hg

def E_cmpL : Env Try.prog := E_orL.add 55 (Spec.pure cmpLG) cmpL_meets (by kernel_rfl)

theorem cmpK_meets : Meets Try.prog 32 (Spec.pure cmpKG) := by
 refine meets_fun (E_cmpL.at_ 17) Try.func32 rfl rfl rfl ?_
 intro args p r hg hp
 unfold cmpKG at hg
 split at hg
 ·rename_i a xs b ys
  simp only [Option.some.injEq, Prod.mk.injEq] at hg
  obtain ⟨rfl, rfl⟩ := hg
  obtain ⟨he, hl, he2, hm⟩ := hp
  generalize dI xs = l at *
  generalize dI ys = m at *
  subst he he2
  have hT : (E_cmpL).X = T := rfl
  have hx0 := @Try.results32
  have hx := hx0
  refine ⟨by rfl, ?_⟩
  intro F W0 hnp hmk
  refine vc_seq_k fun N1 h1 => ?_
  refine u_reg ?_
  try refine lg_mk ?_
  refine u_bx ?_
  refine u_bx ?_
  refine u_mv ?_
  refine lg_nil ?_
  refine h1 _ ?_; clear h1; try clear N1
  refine vc_seq_k fun N2 h2 => ?_
  have hx := And.intro @orL_cmp (And.intro @dI_rows hx0)
  refine vc_regO [54, 55, 53] [0, 1, 2, 3, 5, 6, 7, 8, 4, 9, 10, 11, 12] hmix (by kernel_rfl) ?_
  simp only [pick_rules, list_rules]
  try refine lg_mk ?_
  refine u_pt ?_
  refine u_ld ?_
  refine u_pt ?_
  refine u_ld ?_
  refine u_pt ?_
  refine u_ld ?_
  refine u_pt ?_
  refine u_ld ?_
  have hc := call_rule (E := (E_cmpL.at_ 17)) (f := 54) (sp := Spec.pure cmpIG) rfl
  have hs := @cmpIG.eq_1
  refine u_cp ?_
  have hc := call_rule (E := (E_cmpL.at_ 17)) (f := 55) (sp := Spec.pure cmpLG) rfl
  have hs := @cmpLG.eq_1
  refine u_cp ?_
  refine u_bs ?_
  have hc := call_rule (E := (E_cmpL.at_ 17)) (f := 53) (sp := Spec.pure orLG) rfl
  have hs := @orLG.eq_1
  refine u_cp (hq := by (first | (exact ⟨rfl, by show (2 : Nat) ≤ 9223372036854775807; omega⟩) | exact sd_)) ?_
  refine u_mv ?_
  refine lg_nil ?_
  have hx := hx0
  refine h2 _ ?_; clear h2; try clear N2
  refine vc_ret ?_
  try simp only [k_rules]
  refine fin2_ ?_
  exact cl_
 ·cases hg

def E_cmpK : Env Try.prog := E_cmpL.add 32 (Spec.pure cmpKG) cmpK_meets (by kernel_rfl)

theorem ixK_meets : Meets Try.prog 58 (Spec.pure ixKG) := by
 refine meets_fun (E_cmpK.at_ 19) Try.func58 rfl rfl rfl ?_
 intro args p r hg hp
 unfold ixKG at hg
 split at hg
 ·rename_i xs
  simp only [Option.some.injEq, Prod.mk.injEq] at hg
  obtain ⟨rfl, rfl⟩ := hg
  obtain ⟨he, hl⟩ := hp
  generalize dI xs = l at *
  subst he
  have hT : (E_cmpK).X = T := rfl
  have hx0 := @Try.results58
  have hx := hx0
  refine ⟨by rfl, ?_⟩
  intro F W0 hnp hmk
  refine vc_seq_k fun N1 h1 => ?_
  refine u_reg ?_
  try refine lg_mk ?_
  refine u_mv ?_
  refine lg_nil ?_
  refine h1 _ ?_; clear h1; try clear N1
  refine vc_seq_k fun N2 h2 => ?_
  refine vc_seq_k fun N3 h3 => ?_
  refine u_reg ?_
  try refine lg_mk ?_
  refine u_mv ?_
  refine u_ln ?_
  refine u_mv ?_
  refine lg_nil ?_
  refine h3 _ ?_; clear h3; try clear N3
  refine vc_block ?_
  refine vc_loop_mk (σ := Nat) (fun s => (fun k => k ≤ l.length ∧ ∀ y ∈ l.take k, (!rgK y) = false) s)
   (fun s => (fun k => [(0, .d (.sl (rows eI l))), (1, .clo (.func 57) []), (6, .d (.sl (rows eI l))), (7, .d (.int .i64 (l.length : Nat))), (8, .d (.int .i64 (k : Nat)))]) s)
   (fun s => (fun k => []) s) (fun s => (fun k => l.length - k) s) hnp 0 ?_ [] ?_ ?_
  ·dsimp only
   simp
  ·dsimp only
   refine ⟨by rfl, ?_, ?_⟩
   ·refine fin_ ?_
    exact cl_
   ·refine fin_ ?_
    exact cl_
  ·rintro k hinv N4 h4
   dsimp only at hinv ⊢
   obtain ⟨k1, k2⟩ := hinv
   refine vc_seq_k fun N5 h5 => ?_
   refine u_reg ?_
   try refine lg_mk ?_
   refine u_bn ?_
   refine lg_nil ?_
   refine h5 _ ?_; clear h5; try clear N5
   refine vc_seq_k fun N6 h6 => ?_
   refine u_cond (fun hb7 => ?_) (fun hb7 => ?_)
   ·obtain ⟨x, hxe⟩ := getE (l := l) (i := k) (by omega)
    refine vc_skip ?_
    try simp only [k_rules]
    refine h6 _ ?_; clear h6; try clear N6
    refine vc_seq_k fun N8 h8 => ?_
    refine vc_block ?_
    refine vc_seq_k fun N9 h9 => ?_
    refine u_reg ?_
    try refine lg_mk ?_
    refine u_mv ?_
    refine u_mv ?_
    refine lg_nil ?_
    refine h9 _ ?_; clear h9; try clear N9
    refine vc_seq_k fun N10 h10 => ?_
    have hx := And.intro @hxe (And.intro @eI.eq_1 hx0)
    refine u_reg ?_
    try refine lg_mk ?_
    refine u_mv ?_
    refine u_mv ?_
    refine u_mv ?_
    refine u_pt ?_
    refine u_ld ?_
    have hc := (rfl : ((E_cmpK.at_ 19)).Γ 57 = some (Spec.pure nrgG))
    have hs := (@nrgG.eq_1)
    refine u_kp ?_
    refine lg_nil ?_
    have hx := hx0
    refine h10 _ ?_; clear h10; try clear N10
    refine u_cond (fun hb11 => ?_) (fun hb11 => ?_)
    ·refine vc_seq_k fun N12 h12 => ?_
     refine u_reg ?_
     try refine lg_mk ?_
     refine u_mv ?_
     refine u_mv ?_
     refine lg_nil ?_
     refine h12 _ ?_; clear h12; try clear N12
     refine vc_ret ?_
     try simp only [k_rules]
     rw [fidx_at (P := fun n => !rgK n) hxe (by have := hb11; simpa using this) k2]
     refine fin2_ ?_
     exact cl_
    ·refine vc_skip ?_
     try simp only [k_rules]
     refine h8 _ ?_; clear h8; try clear N8
     refine u_reg ?_
     try refine lg_mk ?_
     refine u_bn ?_
     refine u_mv ?_
     refine lg_nil ?_
     refine h4 _ ⟨k + 1, ?_, ?_, [], ?_⟩
     ·dsimp only
      exact ⟨by omega, all_false_snoc (P := fun n => !rgK n) k2 hxe (by have := hb11; simpa using this)⟩
     ·dsimp only
      omega
     ·dsimp only
      refine ⟨by rfl, ?_, ?_⟩
      ·refine fin_ ?_
       exact cl_
      ·refine fin_ ?_
       exact cl_
   ·refine vc_exit ?_
    simp only [k_rules, Nat.reduceEqDiff, reduceIte, eq_self]
    refine h2 _ ?_; clear h2; try clear N2
    refine vc_seq_k fun N13 h13 => ?_
    refine u_reg ?_
    try refine lg_mk ?_
    refine u_mv ?_
    refine lg_nil ?_
    refine h13 _ ?_; clear h13; try clear N13
    refine vc_ret ?_
    try simp only [k_rules]
    rw [fidx_none (P := fun n => !rgK n) (by rw [List.take_of_length_le (by omega)] at k2; exact k2)]
    refine fin2_ ?_
    exact cl_
 ·cases hg

def E_ixK : Env Try.prog := E_cmpK.add 58 (Spec.pure ixKG) ixK_meets (by kernel_rfl)

theorem conK_meets : Meets Try.prog 56 (Spec.pure conKG) := by
 refine meets_fun (E_ixK.at_ 9) Try.func56 rfl rfl rfl ?_
 intro args p r hg hp
 unfold conKG at hg
 split at hg
 ·rename_i xs
  simp only [Option.some.injEq, Prod.mk.injEq] at hg
  obtain ⟨rfl, rfl⟩ := hg
  obtain ⟨he, hl⟩ := hp
  generalize dI xs = l at *
  subst he
  have hT : (E_ixK).X = T := rfl
  have hx0 := @Try.results56
  have hx := hx0
  refine ⟨by rfl, ?_⟩
  intro F W0 hnp hmk
  refine vc_seq_k fun N1 h1 => ?_
  refine u_reg ?_
  try refine lg_mk ?_
  refine u_mv ?_
  refine lg_nil ?_
  refine h1 _ ?_; clear h1; try clear N1
  refine vc_seq_k fun N2 h2 => ?_
  have hx := And.intro @dI_rows hx0
  refine u_reg ?_
  try refine lg_mk ?_
  refine u_mv ?_
  refine u_mv ?_
  have hc := call_rule (E := (E_ixK.at_ 9)) (f := 58) (sp := Spec.pure ixKG) rfl
  have hs := @ixKG.eq_1
  refine u_cp ?_
  refine u_bn ?_
  refine u_mv ?_
  refine lg_nil ?_
  have hx := hx0
  refine h2 _ ?_; clear h2; try clear N2
  refine vc_ret ?_
  try simp only [k_rules]
  rw [← fidx_any]
  refine fin2_ ?_
  exact cl_
 ·cases hg

def E_conK : Env Try.prog := E_ixK.add 56 (Spec.pure conKG) conK_meets (by kernel_rfl)
end Go.Proofs.Ytjpkgmmmmcgmeaa
